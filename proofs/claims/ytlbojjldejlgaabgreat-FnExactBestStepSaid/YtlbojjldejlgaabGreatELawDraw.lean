/- Tools. -/
import Derived.Test.YtlbojjldejlgaabGreatELiftLaw
set_option maxRecDepth 110000000
set_option linter.unusedVariables false
namespace Go.Lift
open Go
abbrev N:Nat:=110000000
section
def dot:List Int->List Int->Int
 |c::cs,x::xs=>c*x+dot cs xs
 |_,_=>0
def cB(m:Int)(x:Int):Prop:= -m<=x/\x<=m
variable {a:az}{b c x d aD v M:Int}{i n k:Nat}{p l:List Int}{R:Type}{A B:Option R}{o:List Loop}{s:List UInt8}{Q:R->Prop}
theorem Bc{a:Int}(m:0<=a)(n:0<=b)(i:cB a c)(l:cB b x):cB (a*b) (c*x):=by
 obtain⟨o,p⟩:=i;obtain⟨q,r⟩:=l;constructor
 ·have h:=mo (O:0<=a+c) (O:0<=b+x);have k:=mo (O:0<=a-c) (O:0<=b-x);have d:(a+c)*(b+x)=a*b+a*x+c*b+c*x:=by rw[Int.add_mul,Int.mul_add,Int.mul_add];omega
  have e:(a-c)*(b-x)=a*b-a*x-c*b+c*x:=by rw[Int.sub_mul,Int.mul_sub,Int.mul_sub];omega
  rw[d] at h;rw[e] at k;omega
 have h:=mo (O:0<=a+c) (O:0<=b-x);have k:=mo (O:0<=a-c) (O:0<=b+x);have d:(a+c)*(b-x)=a*b-a*x+c*b-c*x:=by rw[Int.add_mul,Int.mul_sub,Int.mul_sub];omega
 have e:(a-c)*(b+x)=a*b+a*x-c*b-c*x:=by rw[Int.sub_mul,Int.mul_add,Int.mul_add];omega
 rw[d] at h;rw[e] at k;omega
theorem Gf(a:List Int):dot a []=0:=by cases a<;>rfl
theorem M8: ∀{cs a:List Int} {c x:Int},cs[a.length]? =some c->dot cs (a++[x])=dot cs a+c*x
 | [],a,c,x,h=>by simp at h
 |d::cs,[],c,x,h=>by simp at h;subst h;simp[dot,Gf]
 |d::cs,y::a,c,x,h=>by
  have h:cs[a.length]? =some c:=by simpa using h
  simp only[List.cons_append,dot];rw[M8 h];omega
theorem M7{d e:List Int}(b:d[i]? =some c)(a:e[i]? =some x):dot d (e.take (i+1))=dot d (e.take i)+c*x:=by have aD:=(bM.1 a).1;rw[dV,a];exact M8 (by simpa[Nat.min_eq_left (Nat.le_of_lt aD)] using b)
theorem Hh{M:Int}(a:0<=M): ∀{cs xs:List Int},(∀c∈cs,cB 9 c)->(∀x∈xs,cB M x)->cB (9*M*xs.length) (dot cs xs)
 | [],xs,_,_=>by
  have:0<=9*M*(xs.length:Int):=mo O O;simp only[dot,cB];omega
 |d::cs,[],_,_=>by simp[dot,cB]
 |d::cs,y::xs,b,i=>by
  have k:=Hh a (cs:=cs) (xs:=xs) (λc h=>b c (by simp[h])) λx h=>i x (by simp[h]);have l:=Bc O a (b d a1) (i y a1);have e:9*M*((y::xs).length:Int)=9*M*(xs.length:Int)+9*M:=by simp[Int.mul_add]
  rw[e];simp only[dot,cB] at*;omega
def dw(a b:Int):List Int:=(List.range (b-a).toNat).map (fun(i:Nat)=>a+(i:Int))
theorem acf{a:Int}:v∈dw a aD↔a<=v/\v<aD:=by
 simp only[dw,List.mem_map,List.mem_range];constructor
 ·rintro⟨i,aD,rfl⟩;omega
 intro h;exact⟨(v-a).toNat,O,O⟩
theorem lq{a:Int}(h:b<=a):dw a b=[]:=by unfold dw;rw[show(b-a).toNat=0 by omega];rfl
theorem sB{a:Int}(h:b<=a):dw b (a+1)=dw b a++[a]:=by unfold dw;rw[show(a+1-b).toNat=(a-b).toNat+1 by omega,nj,gJ];simp;omega
theorem zc{a:Int}(b:a<=v)(c:v<aD):dw a aD=dw a v++v::dw (v+1) aD:=by
 obtain⟨k,d⟩: ∃k:Nat,aD=v+1+k:=⟨(aD-v-1).toNat,O⟩
 subst d;clear c;induction k with
 |zero=>
  rw[show v+1+((0:Nat):Int)=v+1 by omega,sB b,lq (gy _)]
 |succ k e=>
  rw[show v+1+((k+1:Nat):Int)=v+1+(k:Int)+1 by omega,sB O,e,sB O];simp
theorem Aq{a:Type}{f:a->Option Bool}{p:a->Bool}{l:List a}(w: ∀x∈l,f x=some (p x))(G:l.length<n)(z:l.length<=500000000):
  ∃r:Int,bc (λb (c:Int)=>bif decide (c<(l.length:Int)) then(Option.bind (av l c) λe=>Option.bind (f e) λi=>bif i then(some c) else(b (wr (c+1)))) else(some (-1))) n 0=some r/\decide (0<=r)=l.any p:=by
 suffices h:aa (bc (λb (c:Int)=>bif decide (c<(l.length:Int)) then(Option.bind (av l c) λe=>Option.bind (f e) λi=>bif i then(some c) else(b (wr (c+1)))) else(some (-1))) n 0) (λr=>decide (0<=r)=l.any p) by exact h
 refine aa.loop (λx:Int=>0<=x/\x<=l.length/\(l.take x.toNat).any p=false) (λx:Int=>l.length-x.toNat) ?_ n 0 ⟨O,O,a1⟩ bX;rintro k x ⟨s,H,m⟩ A;refine aR (λo=>?_) λB=>?_
 ·obtain⟨y,C,d⟩:=oC s o;have hm:=bC d;refine ag C (ag (w y hm) (aa.cond (λD=>aa.some ?_) λq=>?_))
  ·rw[show l.any p=true from hV.2 ⟨y,hm,D⟩];simp[s]
  rw[bf O];refine A _ ⟨O,O,?_⟩ O;rw[show(x+1).toNat=x.toNat+1 by omega,dV,d];simp[m,q]
 refine aa.some ?_;have F:x.toNat=l.length:=O
 rw[F,cT] at m;rw[m];simp
theorem CQ{f:Int->Option Bool}{p:Int->Bool}(b: ∀x∈l,f x=some (p x))(c:l.length<n)(a:l.length<=500000000):nG n l f=some (l.any p):=by obtain⟨r,d,e⟩:=Aq b c a;unfold nG xN;rw[d,<-e];rfl
theorem xQ{f:az->Option Bool}{p:az->Bool}{l:List az}(b: ∀x∈l,f x=some (p x))(c:l.length<n)(a:l.length<=500000000):oH n l f=some (l.any p):=by obtain⟨r,d,e⟩:=Aq b c a;unfold oH BS;rw[d,<-e];rfl
theorem Ud{f:Stmt->Option Bool}{p:Stmt->Bool}{l:List Stmt}(b: ∀x∈l,f x=some (p x))(c:l.length<n)(a:l.length<=500000000):BO n l f=some (l.any p):=by obtain⟨r,d,e⟩:=Aq b c a;unfold BO Ji;rw[d,<-e];rfl
theorem Tm{f:b7->Option Bool}{p:b7->Bool}{l:List b7}(b: ∀x∈l,f x=some (p x))(c:l.length<n)(a:l.length<=500000000):Bz n l f=some (l.any p):=by obtain⟨r,d,e⟩:=Aq b c a;unfold Bz Ja;rw[d,<-e];rfl
theorem o'{a:Type}{l:List a}{p:Nat->a->Bool}{Q:Bool->Prop}{k:(Int->Option Bool)->Int->Option Bool}(C:l.length<n)(A:l.length<=500000000)
  (c: ∀b (i:Nat) x,l[i]? =some x->(p i x=true->aa (b ((i:Int)+1)) Q)->(p i x=false->Q false)->aa (k b (i:Int)) Q)
  (e: ∀b,(∀(i:Nat) x,l[i]? =some x->p i x=true)->aa (k b (l.length:Int)) Q) (m:(∃(i:Nat) (x:a),l[i]? =some x/\p i x=false)->Q false):aa (bc k n 0) Q:=by
 refine aa.loop (λx:Int=> ∃i:Nat,x=i/\i<=l.length/\ ∀(j:Nat) y,j<i->l[j]? =some y->p j y=true) (λx:Int=>l.length-x.toNat) ?_ n 0 ⟨0,rfl,O,λj y h=>O⟩ bX;rintro b x ⟨i,rfl,D,z⟩ B;by_cases o:i<l.length
 ·have q:=bg o;refine c b i _ q (λr=>B _ ⟨i+1,O,O,λj y F d=>?_⟩ O) λr=>m ⟨i,_,q,r⟩;by_cases s:j=i
  ·subst s;rw[q] at d;cases d;exact r
  exact z j y O d
 have w:i=l.length:=O
 subst w;exact e b λj y d=>z j y (bM.1 d).1 d
def cN(a:az):Bool:=decide (a.aU.length=4)&&(decide (-99<=a.const/\a.const<=99)&&a.aU.all λc=>decide (-9<=c/\c<=9))
theorem fx(h:cN a=true):a.aU.length=4/\cB 99 a.const/\ ∀c∈a.aU,cB 9 c:=by simp only[cN,Bool.and_eq_true,decide_eq_true_eq,List.all_eq_true] at h;exact⟨h.1,h.2.1,h.2.2⟩
theorem iC(n:Nat)(x a b:Int):eY n x a b=some (decide (a<=x/\x<=b)):=by unfold eY;by_cases c:a<=x<;>by_cases d:x<=b<;>simp[aI,c,d]
theorem Sb(i:5500000<=n)(a:az)(k:a.aU.length<=1100000):uP n a=some (cN a):=by
 have h: ∀x∈a.aU,xP n x=some (!decide (-9<=x/\x<=9)):=λx _=>by unfold xP;rw[iC];rfl
 have bB:=CQ (n:=n) h O O;unfold uP Fj;rw[iC];simp only[aI,Option.bind];rw[bB];unfold cN;have e:(a.aU.any λx=> !decide (-9<=x/\x<=9))= !(a.aU.all λc=>decide (-9<=c/\c<=9)):=by
  rw[sM];simp
 rw[e];by_cases d:a.aU.length=4
 ·rw[bp (show(a.aU.length:Int)=4 by omega),bp d];generalize decide (-99<=a.const/\a.const<=99)=b;cases b<;>simp
 rw[bs (show¬(a.aU.length:Int)=4 by omega),bs d];rfl
theorem yh(n:Nat)(x m:Int)(c:0<=m/\m<=1000000000):qo n x m=some (decide (-m<=x/\x<=m)):=by
 unfold qo;rw[bf O];by_cases a: -m<=x<;>by_cases b:x<=m
 ·simp[aI,a,b]
 ·simp[aI,a,b]
 ·simp[aI,a,b]
 simp[aI,a,b]
theorem Jh(y:5500000<=n)(a:az)(A:a.aU.length<=1100000):uI n a=some (cN a):=by
 refine aa.eq ?_;unfold uI;refine o' (l:=a.aU) (p:=λ_ c=>decide (-9<=c/\c<=9)) O O (λb i x d o q=>?_) (λb k=>?_) (λ⟨i,x,d,m⟩=>?_)
 ·rw[bp (show(i:Int)<(a.aU.length:Int) by have:=(bM.1 d).1;omega)];refine ag (a' d) (ag (yh n x 9 O) ?_);have aD:=(bM.1 d).1;cases m:decide (-9<=x/\x<=9) with
  |true=>show aa (b _) _;rw[bf O];exact o m
  |false=>exact aa.some (q m)
 ·rw[bs (show¬(a.aU.length:Int)<(a.aU.length:Int) by omega)];have e:a.aU.all (λc=>decide (-9<=c/\c<=9))=true:=fC.2 λc s=>by obtain⟨i,aD⟩:=kT s;exact k i c aD
  refine aa.cond (λh=>(by cases h)) λ_=>?_;unfold cN;rw[e];refine aa.aI (λz:Bool=>z=(decide (a.aU.length=4)&&(decide (-99<=a.const/\a.const<=99)&&true))) (λj r=>?_) λz w=>aa.some w;refine aR (λh=>ag (yh n a.const 99 O) (r _ ?_)) λh=>r _ ?_
  ·rw[bp (O:a.aU.length=4)];simp
  rw[bs (show¬a.aU.length=4 by omega)];rfl
 unfold cN;have e:a.aU.all (λc=>decide (-9<=c/\c<=9))=false:=iR.2 ⟨x,bC d,by rw[m];simp⟩;rw[e];simp
def fJ(a:az)(p:List Int):Int:=a.const+dot a.aU p
def Cp(M:Int)(p:List Int):Prop:= ∀x∈p,cB M x
theorem zr(b:cN a=true)(k:p.length<=4)(c:0<=M/\M<=1000000000)(d:Cp M p)(i:Nat)(l:i<=p.length):cB 1000000000000 (a.const+dot a.aU (p.take i)):=by
 obtain⟨m,n,e⟩:=fx b;have o:=Hh (M:=M) c.1 (cs:=a.aU) (xs:=p.take i) e λx h=>d x (fU h);have q:(p.take i).length<=4:=bX
 have r:9*M*((p.take i).length:Int)<=9*M*4:=Int.mul_le_mul_of_nonneg_left O O;simp only[cB] at*;omega
theorem Yz(D:5500000<=n)(e:cN a=true)(q:p.length<=4)(h:0<=M/\M<=1000000000)(l:Cp M p):nH n a p=some (fJ a p):=by
 obtain⟨F,G,w⟩:=fx e;refine aa.eq ?_;unfold nH;refine aa.loop (λx:Int×Int=> ∃i:Nat,x.2=i/\i<=p.length/\x.1=a.const+dot a.aU (p.take i)) (λx=>p.length-x.2.toNat) ?_ n _ ⟨0,rfl,O,by simp[Gf]⟩ bX;rintro m ⟨x,k⟩ ⟨i,r,y,o⟩ z;dsimp only at r o⊢;subst r;refine aR (λd=>?_) λA=>aa.some ?_
 ·have d:i<p.length:=O
  have b:=bg d;have c:=bg (O:i<a.aU.length);have cn:=M7 c b;have B:=zr e q h l i y;have s:=zr e q h l (i+1) O;rw[cn] at s;have C:=Bc O h.1 (w _ (bC c)) (l _ (bC b));refine ag (a' b) (ag (a' c) ?_);simp only[cB] at B s C;rw[bf (n:=a.aU[i]*p[i]) O,bf O,bf O];refine z _ ⟨i+1,Z,O,?_⟩ Z;dsimp only;rw[cn,o];omega
 have:i=p.length:=O
 rw[o,this,cT];rfl
theorem YO(K:5500000<=n)(d:cN a=true)(r:p.length<=4)(e:0<=M/\M<=1000000000)(l:Cp M p):m0 n a p=some (fJ a p):=by
 obtain⟨L,Q,A⟩:=fx d;refine aa.eq ?_;unfold m0;refine aa.loop (λx:Int×Int=> ∃i:Nat,x.2=i/\i<=p.length/\x.1=a.const+dot a.aU (p.take i)) (λx=>p.length-x.2.toNat) ?_ n _ ⟨0,rfl,O,by simp[Gf]⟩ bX;rintro m ⟨x,k⟩ ⟨i,s,B,o⟩ C;dsimp only at s o⊢;subst s;refine aa.aI (λz=>z=decide (i<p.length)) (λj w=>aR (λh=>w _ ?_) λh=>w _ ?_) λz D=>?_
 ·rw[bp (O:i<p.length),bp (show(i:Int)<(a.aU.length:Int) by omega)]
 ·rw[bs (show¬i<p.length by omega)]
 subst D;refine aR (λq=>?_) λF=>aa.some ?_
 ·have b:=bg q;have c:=bg (O:i<a.aU.length);have cn:=M7 c b;have G:=zr d r e l i B;have y:=zr d r e l (i+1) O;rw[cn] at y;have H:=Bc O e.1 (A _ (bC c)) (l _ (bC b));refine ag (a' c) (ag (a' b) ?_);simp only[cB] at G y H;rw[bf (n:=a.aU[i]*p[i]) O,bf O,bf O];refine C _ ⟨i+1,Z,O,?_⟩ Z;dsimp only;rw[cn,o];omega
 have:i=p.length:=O
 rw[o,this,cT];rfl
theorem bY(h:aa A Q):aa (bif true then A else B) Q:=h
theorem bS(h:aa B Q):aa (bif false then A else B) Q:=h
def eD:List Int->Nat
 | []=>0
 |c::cs=>if eD cs=0 then(if c=0 then 0 else 1) else eD cs+1
theorem KO: ∀(l:List Int) (c:Int),eD (l++[c])=if c=0 then eD l else l.length+1
 | [],c=>by simp[eD]
 |d::l,c=>by
  have b:=KO l c;simp only[List.cons_append,eD,b];by_cases a:c=0
  ·simp[a]
  simp[a]
theorem KN(h:l[i]? =some c):eD (l.take (i+1))=if c=0 then eD (l.take i) else i+1:=by have aD:=(bM.1 h).1;rw[dV,h];show eD (l.take i++[c])=_;rw[KO,cq,pe (Nat.le_of_lt aD)]
theorem yd: ∀{l:List Int} {i:Nat} {c:Int},l[i]? =some c->eD l<=i->c=0
 | [],i,c,h,_=>by simp at h
 |d::l,0,c,h,a=>by
  simp at h;subst h;simp only[eD] at a;by_cases b:eD l=0
  ·by_cases e:d=0
   ·exact e
   simp[b,e] at a
  simp[b] at a
 |d::l,i+1,c,h,a=>by
  have h:l[i]? =some c:=by simpa using h
  refine yd h ?_;simp only[eD] at a;by_cases b:eD l=0
  ·omega
  rw[aT b] at a;omega
def hG(a:az):Prop:=a.aU.length<=1100000
def ju(l:List az):Prop:=l.length<=1100000/\ ∀a∈l,hG a
theorem yu(r:5500000<=n)(h:hG a):nP n a=some (eD a.aU:Int):=by
 have h:a.aU.length<=1100000:=h;refine aa.eq ?_;unfold nP;refine aa.loop (λx:Int×Int=> ∃i:Nat,x.2=i/\i<=a.aU.length/\x.1=(eD (a.aU.take i):Int)) (λx=>a.aU.length-x.2.toNat) ?_ n _ ⟨0,rfl,O,by simp[eD]⟩ bX;rintro c ⟨x,k⟩ ⟨i,l,s,d⟩ o;dsimp only at l d⊢;subst l;refine aR (λb=>?_) λp=>aa.some ?_
 ·have b:i<a.aU.length:=O
  have bB:=bg b;have cn:=KN bB;refine aa.aI (λz:Int=>z=(eD (a.aU.take (i+1)):Int)) (λj m=>ag (a' bB) (dZ (λe=>m _ ?_) λe=>m _ ?_)) λz q=>?_
  ·rw[cn,aT e,bf O];omega
  ·rw[cn,aW e,d]
  rw[bf O];exact o _ ⟨i+1,Z,O,q⟩ Z
 have:i=a.aU.length:=O
 rw[d,this,cT]
theorem DR(q:5500000<=n)(o:hG a):p5 n a=some (eD a.aU:Int):=by
 have o:a.aU.length<=1100000:=o;refine aa.eq ?_;unfold p5;refine aa.loop (λx:Int=> ∃i:Nat,x=i/\i<=a.aU.length/\eD a.aU=eD (a.aU.take i)) (λx=>x.toNat) ?_ n _ ⟨a.aU.length,rfl,O,by rw[cT]⟩ bX;rintro b x ⟨i,rfl,r,c⟩ p;cases i with
 |zero=>
  refine aa.aI (λz=>z=false) (λj d=>aR (λh=>bt h (by decide)) λh=>d _ rfl) λz k=>?_;subst k;exact aa.some (by rw[c];rfl)
 |succ i=>
  have l:i<a.aU.length:=O
  have bB:=bg l;have cn:=KN bB;have e:wr (((i+1:Nat):Int)-1)=(i:Int):=by rw[bf O];omega
  rw[e];refine aa.aI (λz=>z=decide (a.aU[i]=0)) (λj d=>aR (λh=>ag (a' bB) (d _ rfl)) λh=>bt (show(0:Int)<((i+1:Nat):Int) by omega) h) λz k=>?_;subst k;refine aR (λm=>?_) λm=>aa.some ?_
  ·exact p _ ⟨i,rfl,O,by rw[c,cn,aW m]⟩ O
  rw[c,cn,aT m]
def eI(a:az)(d:Int):Bool:=cN a&&decide ((eD a.aU:Int)<=d)
def e3(l:List az)(d:Int):Bool:=l.all (λa=>eI a d)&&decide (1<=l.length/\l.length<=2)
theorem B3(a b:Int):decide (a<b)= !decide (b<=a):=by
 by_cases h:a<b
 ·rw[bp h,bs O];rfl
 rw[bs h,bp O];rfl
theorem KU(w:5500000<=n){l:List az}(B:ju l)(d:Int):v8 n l d=some (e3 l d):=by
 obtain⟨G,C⟩:=B;refine aa.eq ?_;unfold v8;refine o' (l:=l) (p:=λ_ a=>eI a d) O O (λb i x k q r=>?_) (λb m=>?_) (λ⟨i,x,k,D⟩=>?_)
 ·have aD:=(bM.1 k).1;have hm:=C x (bC k);rw[bp (show(i:Int)<(l.length:Int) by omega)];refine bY (aa.aI (λz=>z= !eI x d) (λj o=>ag (a' k) (ag (Jh w x hm) ?_)) λz s=>?_)
  ·cases y:cN x with
   |false=>exact o _ (by unfold eI;rw[y];rfl)
   |true=>exact ag (yu w hm) (o _ (by unfold eI;rw[y,B3];simp))
  subst s;cases A:eI x d with
  |true=>show aa (b _) _;rw[bf O];exact q A
  |false=>exact aa.some (r A)
 ·rw[bs (show¬(l.length:Int)<(l.length:Int) by omega)];have e:l.all (λa=>eI a d)=true:=fC.2 λc F=>by obtain⟨i,aD⟩:=kT F;exact m i c aD
  unfold e3;rw[e];refine bS (aa.aI (λz=>z=decide (1<=l.length/\l.length<=2)) (λj o=>aR (λh=>o _ ?_) λh=>o _ ?_) λz s=>aa.some (by rw[s];rfl))
  ·by_cases H:l.length<=2
   ·rw[bp (show(l.length:Int)<=2 by omega),bp O]
   rw[bs (show¬(l.length:Int)<=2 by omega),bs O]
  rw[bs O]
 unfold e3;rw[iR.2 ⟨x,bC k,by rw[D];simp⟩];rfl
theorem LS(b:5500000<=n)(c:hG a)(d:Int):uQ n a d=some (!eI a d):=by
 unfold uQ;rw[Sb b a c];simp only[aI,Option.bind];cases e:cN a with
 |false=>simp[eI,e]
 |true=>
  rw[DR b c];simp only[eI,e,Bool.not_true,cond_false,Bool.true_and];rw[B3]
theorem JT(n k:Nat):eY n (k:Int) 1 2=some (decide (1<=k/\k<=2)):=by
 rw[iC];congr 1;by_cases h:1<=k/\k<=2
 ·rw[bp h,bp O]
 rw[bs h,bs O]
theorem Kc(b:5500000<=n){l:List az}(c:ju l)(d:Int):yy n l d=some (e3 l d):=by
 obtain⟨m,h⟩:=c;unfold yy;rw[JT];have bB:=xQ (n:=n) (f:=λi=>uQ n i d) (p:=λa=> !eI a d) (l:=l) (λx k=>LS b (h x k) d) O O;simp only[aI,Option.bind];rw[bB];unfold e3;have e:(l.any λa=> !eI a d)= !(l.all λa=>eI a d):=by
  rw[sM];simp
 rw[e];cases decide (1<=l.length/\l.length<=2)<;>simp
def wT{a:Type}(p:Nat->a->Bool)(l:List a):Bool:=l.zipIdx.all λq=>p q.2 q.1
theorem CY{a:Type}{p:Nat->a->Bool}{l:List a}(h: ∀(i:Nat) x,l[i]? =some x->p i x=true):wT p l=true:=
 fC.2 λq b=>h q.2 q.1 (Di.1 b)
theorem CL{a:Type}{p:Nat->a->Bool}{l:List a}{x:a}(h:l[i]? =some x)(b:p i x=false):wT p l=false:=
 iR.2 ⟨(x,i),Di.2 h,by rw[b];simp⟩
theorem LP{a:Type}{p:Nat->a->Bool}{l:List a}(h:wT p l=true){x:a}(b:l[i]? =some x):p i x=true:=
 fC.1 h (x,i) (Di.2 b)
def ke(a:List Loop):Bool:=wT (λi l=>e3 l.lo (i:Int)&&e3 l.aD (i:Int)) a&&decide (a.length<=4)
def pI(a:List Loop):Prop:=a.length<=1100000/\ ∀l∈a,ju l.lo/\ju l.aD
theorem TJ(k:5500000<=n)(h:pI o):Dp n o=some (ke o):=by
 obtain⟨C,s⟩:=h;refine aa.eq ?_;unfold Dp;refine o' (l:=o) (p:=λi l=>e3 l.lo (i:Int)&&e3 l.aD (i:Int)) O O (λa i x b d e=>?_) (λa c=>?_) (λ⟨i,x,b,w⟩=>?_)
 ·have aD:=(bM.1 b).1;obtain⟨y,A⟩:=s x (bC b);rw[bp (show(i:Int)<(o.length:Int) by omega)];refine ag (a' b) (aa.aI (λz=>z= !(e3 x.lo (i:Int)&&e3 x.aD (i:Int))) (λj m=>ag (Kc k y _) ?_) λz B=>?_)
  ·cases q:e3 x.lo (i:Int) with
   |false=>exact m _ (by rw[q];rfl)
   |true=>exact ag (Kc k A _) (m _ (by rw[q];rfl))
  subst B;cases r:(e3 x.lo (i:Int)&&e3 x.aD (i:Int)) with
  |true=>show aa (a _) _;rw[bf O];exact d r
  |false=>exact aa.some (e r)
 ·rw[bs (show¬(o.length:Int)<(o.length:Int) by omega)];refine aa.some ?_;unfold ke;rw[CY c,eW];exact decide_eq_decide.2 O
 unfold ke;rw[CL b w];rfl
theorem Ty(r:5500000<=n)(h:pI o):Da n o=some (ke o):=by
 obtain⟨F,A⟩:=h;unfold Da;by_cases s:o.length<=4
 ·rw[bp (show(o.length:Int)<=4 by omega)];refine aa.eq ?_;refine o' (l:=o) (p:=λi l=>e3 l.lo (i:Int)&&e3 l.aD (i:Int)) O O (λa i x c m q=>?_) (λa d=>?_) (λ⟨i,x,c,B⟩=>?_)
  ·have aD:=(bM.1 c).1;obtain⟨C,D⟩:=A x (bC c);rw[bp (show(i:Int)<(o.length:Int) by omega)];refine aa.aI (λz=>z=true) (λj b=>bY (b _ rfl)) λz e=>?_;subst e;refine bY (aa.aI (λz=>z= !(e3 x.lo (i:Int)&&e3 x.aD (i:Int))) (λj b=>ag (a' c) (ag (KU r C _) ?_)) λz e=>?_)
   ·cases w:e3 x.lo (i:Int) with
    |false=>exact b _ (by rw[w];rfl)
    |true=>exact ag (KU r D _) (b _ (by rw[w];rfl))
   subst e;cases y:(e3 x.lo (i:Int)&&e3 x.aD (i:Int)) with
   |true=>show aa (a _) _;rw[bf O];exact m y
   |false=>exact aa.some (q y)
  ·rw[bs (show¬(o.length:Int)<(o.length:Int) by omega)];refine aa.aI (λz=>z=false) (λj b=>bS (b _ rfl)) λz e=>?_;subst e;refine aa.some ?_;unfold ke;rw[CY d,bp s];rfl
  unfold ke;rw[CL c B];rfl
 obtain⟨k,rfl⟩: ∃k,n=k+1:=⟨n-1,O⟩
 rw[bs (show¬(o.length:Int)<=4 by omega)];unfold ke;rw[bs s,iS];simp only[bc,aI];cases decide ((0:Int)<(o.length:Int))<;>rfl
def l7:List Int->Int
 | []=>0
 |x::a=>a.foldl max x
def nT:List Int->Int
 | []=>0
 |x::a=>a.foldl min x
theorem abK(h:l≠[])(x:Int):l7 (l++[x])=max (l7 l) x:=by
 cases l with
 |nil=>exact bt rfl h
 |cons a l=>simp[l7,List.foldl_append]
theorem abL(h:l≠[])(x:Int):nT (l++[x])=min (nT l) x:=by
 cases l with
 |nil=>exact bt rfl h
 |cons a l=>simp[nT,List.foldl_append]
theorem Pe: ∀(l:List Int) (a:Int),a<=l.foldl max a
 | [],a=>gy _
 |x::l,a=>Int.le_trans (Int.le_max_left a x) (Pe l (max a x))
theorem Pg: ∀(l:List Int) (a:Int),l.foldl min a<=a
 | [],a=>gy _
 |x::l,a=>Int.le_trans (Pg l (min a x)) (Int.min_le_left a x)
def k7(l:List az)(p:List Int):List Int:=l.map λa=>fJ a p
def dx(l:Loop)(p:List Int):Int:=l7 (k7 l.lo p)
def en(l:Loop)(p:List Int):Int:=nT (k7 l.aD p)
def hv(k:Nat)(p:List Int):Prop:=p.length=k/\k<=4/\Cp (100*40^k) p
theorem rn(h:k<=4):(0:Int)<=100*40^k/\(100:Int)*40^k<=1000000000:=by
 match k,h with
 |0,_=>decide
 |1,_=>decide
 |2,_=>decide
 |3,_=>decide
 |4,_=>decide
theorem px{l:List az}(h:e3 l d=true):1<=l.length/\l.length<=2/\ ∀a∈l,cN a=true:=by
 simp only[e3,Bool.and_eq_true,decide_eq_true_eq,List.all_eq_true] at h;refine⟨h.2.1,h.2.2,λa b=>?_⟩
 have:=h.1 a b;simp only[eI,Bool.and_eq_true] at this;exact this.1
theorem O2(b:cN a=true)(c:hv k p)(d:k<=3): -(40*(100*40^k))<=fJ a p/\fJ a p<=40*(100*40^k):=by
 obtain⟨m,n,e⟩:=fx b;obtain⟨o,q,h⟩:=c;obtain⟨i,r⟩:=rn (k:=k) O;have s:(100:Int)<=100*40^k:=by
  match k,d with
  |0,_=>decide
  |1,_=>decide
  |2,_=>decide
  |3,_=>decide
 generalize (100*40^k:Int)=M at*;have w:=Hh (M:=M) i (cs:=a.aU) (xs:=p) e λx l=>h x l;have y:9*M*(p.length:Int)<=9*M*3:=Int.mul_le_mul_of_nonneg_left O O;simp only[cB] at*;unfold fJ;omega
theorem w6(c:5500000<=n)(d:cN a=true)(b:hv k p):m0 n a p=some (fJ a p):=
 YO c d (by have:=b.1;have:=b.2.1;omega) (rn b.2.1) b.2.2
theorem w8(c:5500000<=n)(d:cN a=true)(b:hv k p):nH n a p=some (fJ a p):=
 Yz c d (by have:=b.1;have:=b.2.1;omega) (rn b.2.1) b.2.2
theorem nY{l:List az}(h:l[i]? =some a):(k7 l p)[i]? =some (fJ a p):=by unfold k7;rw[List.getElem?_map,h];rfl
theorem AG(l:List az)(p:List Int):(k7 l p).length=l.length:=dj ..
theorem NN{a:Type}{l:List a}(h:1<=i)(b:1<=l.length):l.take i≠[]:=by
 intro e
 have:(l.take i).length=0:=by rw[e];rfl
 rw[cq] at this;omega
theorem Oh(h:l[i]? =some x)(a:1<=i):l7 (l.take (i+1))=max (l7 (l.take i)) x:=by have:=(bM.1 h).1;rw[dV,h];exact abK (NN a O) x
theorem Ol(h:l[i]? =some x)(a:1<=i):nT (l.take (i+1))=min (nT (l.take i)) x:=by have:=(bM.1 h).1;rw[dV,h];exact abL (NN a O) x
theorem GV(h:l[0]? =some x):l7 (l.take 1)=x:=by
 cases l with
 |nil=>simp at h
 |cons a l=>simp at h;subst h;rfl
theorem GW(h:l[0]? =some x):nT (l.take 1)=x:=by
 cases l with
 |nil=>simp at h
 |cons a l=>simp at h;subst h;rfl
theorem Ls(q:5500000<=n){l:Loop}{a:Int}(Q:e3 l.lo d=true)(R:e3 l.aD a=true)(r:hv k p):yN n l p=some (dx l p,en l p):=by
 obtain⟨aH,a2,a3⟩:=px Q;obtain⟨f,t,L⟩:=px R;have B:=bg (O:0<l.lo.length);have C:=bg (O:0<l.aD.length);refine aa.eq ?_;unfold yN;refine ag (a' (i:=0) B) (ag (w6 q (a3 _ (bC B)) r) (ag (a' (i:=0) C) (ag (w6 q (L _ (bC C)) r) ?_)));refine aa.loop (λx:Int×Int=> ∃i:Nat,x.2=i/\1<=i/\i<=l.lo.length/\x.1=l7 ((k7 l.lo p).take i)) (λx=>l.lo.length-x.2.toNat) ?_ n _ ⟨1,rfl,O,O,(GV (nY B)).symm⟩ Z;rintro D ⟨x,z⟩ ⟨i,b,c,W,s⟩ X;dsimp only at b s⊢;subst b;refine aR (λF=>?_) λG=>?_
 ·have g:=bg (O:i<l.lo.length);have e:=Oh (nY (p:=p) g) c;refine aa.aI (λz=>z=l7 ((k7 l.lo p).take (i+1))) (λj o=>ag (a' g) (ag (w6 q (a3 _ (bC g)) r) (aR (λh=>o _ ?_) λh=>o _ ?_))) λz b=>?_
  ·rw[e,<-s];omega
  ·rw[e,<-s];omega
  rw[bf O];exact X _ ⟨i+1,Z,O,O,b⟩ Z
 have m:i=l.lo.length:=O
 have H:x=dx l p:=by rw[s,m,<-AG l.lo p,cT];rfl
 refine aa.loop (λx:Int×Int=> ∃i:Nat,x.2=i/\1<=i/\i<=l.aD.length/\x.1=nT ((k7 l.aD p).take i)) (λx=>l.aD.length-x.2.toNat) ?_ n _ ⟨1,rfl,O,O,(GW (nY C)).symm⟩ Z;rintro w ⟨y,z⟩ ⟨i,b,c,W,A⟩ K;dsimp only at b A⊢;subst b;refine aR (λF=>?_) λG=>aa.some ?_
 ·have g:=bg (O:i<l.aD.length);have e:=Ol (nY (p:=p) g) c;refine aa.aI (λz=>z=nT ((k7 l.aD p).take (i+1))) (λj o=>ag (a' g) (ag (w6 q (L _ (bC g)) r) (aR (λh=>o _ ?_) λh=>o _ ?_))) λz b=>?_
  ·rw[e,<-A];omega
  ·rw[e,<-A];omega
  rw[bf O];exact K _ ⟨i+1,Z,O,O,b⟩ Z
 have m:i=l.aD.length:=O
 rw[H,A,m,<-AG l.aD p,cT];rfl
theorem Yt(e:5500000<=n){l:Loop}{a:Int}(G:e3 l.lo d=true)(H:e3 l.aD a=true)(h:hv k p):Dr n l p=some (dx l p,en l p):=by
 obtain⟨aH,a2,a3⟩:=px G;obtain⟨Q,R,F⟩:=px H;have r:=bg (O:0<l.lo.length);have s:=bg (O:0<l.aD.length);refine aa.eq ?_;unfold Dr;refine ag (a' (i:=0) r) (ag (w8 e (a3 _ (bC r)) h) (ag (a' (i:=0) s) (ag (w8 e (F _ (bC s)) h) ?_)));refine aa.loop (λx:Int×Int=> ∃i:Nat,x.2=i/\i<=l.lo.length/\x.1=l7 ((k7 l.lo p).take (max i 1))) (λx=>l.lo.length-x.2.toNat) ?_ n _ ⟨0,rfl,O,(GV (nY r)).symm⟩ Z;rintro w ⟨x,z⟩ ⟨i,c,K,m⟩ L;dsimp only at c m⊢;subst c;refine aR (λA=>?_) λB=>?_
 ·have g:=bg (O:i<l.lo.length);refine ag (a' g) (ag (w8 e (a3 _ (bC g)) h) ?_);rw[bf O];refine L _ ⟨i+1,Z,O,?_⟩ Z;dsimp only;rw[show max (i+1) 1=i+1 by omega];cases i with
  |zero=>rw[m,show max 0 1=1 by rfl,dn,GV (nY g)];omega
  |succ i=>rw[Oh (nY (p:=p) g) O,m,show max (i+1) 1=i+1 by omega]
 have b:i=l.lo.length:=O
 have C:x=dx l p:=by rw[m,b,Nat.max_eq_left O,<-AG l.lo p,cT];rfl
 refine aa.loop (λx:Int×Int=> ∃i:Nat,x.2=i/\i<=l.aD.length/\x.1=nT ((k7 l.aD p).take (max i 1))) (λx=>l.aD.length-x.2.toNat) ?_ n _ ⟨0,rfl,O,(GW (nY s)).symm⟩ Z;rintro o ⟨y,z⟩ ⟨i,c,K,q⟩ D;dsimp only at c q⊢;subst c;refine aR (λA=>?_) λB=>aa.some ?_
 ·have g:=bg (O:i<l.aD.length);refine ag (a' g) (ag (w8 e (F _ (bC g)) h) ?_);rw[bf O];refine D _ ⟨i+1,Z,O,?_⟩ Z;dsimp only;rw[show max (i+1) 1=i+1 by omega];cases i with
  |zero=>rw[q,show max 0 1=1 by rfl,dn,GW (nY g)];omega
  |succ i=>rw[Ol (nY (p:=p) g) O,q,show max (i+1) 1=i+1 by omega]
 have b:i=l.aD.length:=O
 rw[C,q,b,Nat.max_eq_left O,<-AG l.aD p,cT];rfl
theorem Ax{l:Loop}(n:e3 l.lo d=true)(o:e3 l.aD b=true)(e:hv k p)(i:k<=3)(A:dx l p<=v/\v<en l p):hv (k+1) (p++[v]):=by
 obtain⟨aH,a2,a3⟩:=px n;obtain⟨m,B,r⟩:=px o;have C: -(40*(100*40^k))<=dx l p:=by
  cases c:l.lo with
  |nil=>rw[c] at aH;simp at aH
  |cons a as=>
   have:=(O2 (a3 a (by rw[c];simp)) e i).1;unfold dx k7;rw[c];exact Int.le_trans this (Pe _ _)
 have D:en l p<=40*(100*40^k):=by
  cases c:l.aD with
  |nil=>rw[c] at m;simp at m
  |cons a as=>
   have:=(O2 (r a (by rw[c];simp)) e i).2;unfold en k7;rw[c];exact Int.le_trans (Pg _ _) this
 obtain⟨s,F,w⟩:=e;have y:(100*40^(k+1):Int)=40*(100*40^k):=by rw[Int.pow_succ];omega
 have q:=(rn (k:=k) O).1;refine⟨by simp[s],O,λx z=>?_⟩;rw[y];rcases ef.1 z with h|h
 ·have:=w x h;simp only[cB] at this⊢;omega
 simp at h;subst h;simp only[cB];omega
def e6:List Loop->List Int->List (List Int)
 | [],p=>[p]
 |l::b2,p=>(dw (dx l p) (en l p)).flatMap λv=>e6 b2 (p++[v])
def fh:List Loop->List Int->Int
 | [],_=>1
 |l::b2,p=>1+((dw (dx l p) (en l p)).map λv=>fh b2 (p++[v])).sum
theorem na{a:Type}(f:a->Int): ∀(l:List a),(∀x∈l,1<=f x)->(l.length:Int)<=(l.map f).sum
 | [],_=>a1
 |x::l,h=>by have c:=na f l λy b=>h y (by simp[b]);have d:=h x a1;simp only[List.map_cons,List.sum_cons,List.length_cons];omega
theorem AR: ∀(b2:List Loop) (p:List Int),1<=fh b2 p
 | [],p=>gy _
 |l::b2,p=>by have:=na (λv=>fh b2 (p++[v])) (dw (dx l p) (en l p)) λv _=>AR b2 _;simp only[fh];omega
def Fit(a:List Loop):Prop:=a.length<=4/\ ∀(i:Nat) l,a[i]? =some l->e3 l.lo (i:Int)=true/\e3 l.aD (i:Int)=true
theorem A5{nest:List Loop}(h:ke nest=true):Fit nest:=by
 simp only[ke,Bool.and_eq_true,decide_eq_true_eq] at h;refine⟨h.2,λi l a=>?_⟩
 have:=LP h.1 a;simpa[Bool.and_eq_true] using this
theorem zs{l:Loop}{q:List Loop}(h:o.drop k=l::q):o[k]? =some l/\o.drop (k+1)=q/\k<o.length:=by
 have a:(o.drop k)[0]? =some l:=by rw[h];rfl
 rw[fS,qO] at a;refine⟨a,?_,(bM.1 a).1⟩
 have:(o.drop k).drop 1=q:=by rw[h];rfl
 rwa [List.drop_drop] at this
theorem zO(h:o.drop k=[])(a:k<=o.length):k=o.length:=by
 have:(o.drop k).length=0:=by rw[h];rfl
 rw[eX] at this;omega
theorem mL(p:List Int)(h:p.length<=1100000):app [] p=some p:=by rw[cW bX];rfl
theorem M6(l:List Int)(f:Int->Int)(v:Int):((l++[v]).map f).sum=(l.map f).sum+f v:=a1
theorem acg{lo:Int}(h:lo<=v):((dw lo v).length:Int)=v-lo:=by unfold dw;simp;omega
theorem Mb{b:List Loop}(B:Fit b): ∀(b2:List Loop) (n k:Nat) (p:List Int) (a:Int),5500000+b2.length<=n->b.drop k=b2->k<=b.length->hv k p->0<=a->a<=1200->
  aa (qB n b p a) (λr=>(fh b2 p<=a->r=fh b2 p)/\(a<fh b2 p->a<r)/\1<=r/\r<=a+1)
 | [],n,k,p,a,K,C,L,m,N,P=>by
  obtain⟨n,rfl⟩: ∃j,n=j+1:=⟨n-1,O⟩
  have S:=zO C L;have o:=m.1;unfold qB;rw[bp (show(p.length:Int)=(b.length:Int) by omega)];exact aa.some ⟨λ_=>rfl,λh=>by simp only[fh] at h;omega,O,O⟩
 |l::b2,n,k,p,a,K,C,L,m,N,P=>by
  obtain⟨n,rfl⟩: ∃j,n=j+1:=⟨n-1,O⟩
  obtain⟨Q,T,d3⟩:=zs C;obtain⟨R,W⟩:=B.2 k l Q;have o:=m.1;have D:k<=3:=by have:=B.1;omega
  simp only[List.length_cons] at K;unfold qB;rw[bs (show¬(p.length:Int)=(b.length:Int) by omega)];refine bS (ag (x:=l) (by rw[o];exact a' Q) (ag (Ls O R W m) ?_));let f:Int->Int:=λv=>fh b2 (p++[v]);have q: ∀v,1<=f v:=λv=>AR _ _;have U:fh (l::b2) p=1+((dw (dx l p) (en l p)).map f).sum:=rfl;refine aa.loop (λx:Int×Int=>dx l p<=x.2/\(x.2<=en l p\/x.2=dx l p)/\(1+((dw (dx l p) x.2).map f).sum<=a->x.1=1+((dw (dx l p) x.2).map f).sum)/\(a<1+((dw (dx l p) x.2).map f).sum->a<x.1)/\1<=x.1/\x.1<=a+1)
   (λx=>(a+1-x.1).toNat) ?_ n _ ⟨gy _,.inr rfl,λ_=>by rw[lq (gy _)];rfl,λh=>by rw[lq (gy _)] at h;simp at h;dsimp only;omega,Z,Z⟩ Z
  rintro F ⟨x,v⟩ ⟨A,X,G,H,g,t⟩ V;dsimp only at A X G H g t⊢;refine aa.aI (λz=>z=decide (v<en l p/\x<=a)) (λj u=>aR (λh=>u _ ?_) λh=>u _ ?_) λz Y=>?_
  ·by_cases d:x<=a
   ·rw[bp d,bp ⟨h,d⟩]
   rw[bs d,bs λh=>d h.2]
  ·rw[bs λE=>h E.1]
  subst Y;refine aR (λ⟨e,d⟩=>?_) λs=>aa.some ?_
  ·have w:x=1+((dw (dx l p) v).map f).sum:=G (by apply Int.not_lt.1;intro h;have:=H h;omega);have i:=Ax R W m D ⟨A,e⟩;have e1:wr (a-x)=a-x:=by rw[bf O]
   rw[e1];refine ag (mL p O) (ag (cW bX) (gA (Mb B b2 n (k+1) (p++[v]) (a-x) O T O i O O) λr ⟨ss,u',aju,ajv⟩=>?_));have aiv:v<en l p:=e;have QE: -1000000000<=v/\v<=1000000000:=by
    have h9:=i.2.2 v a1;have kC:=rn i.2.1;simp only[cB] at h9;omega
   rw[bf (n:=v+1) O,bf (n:=x+r) O];have I:1+((dw (dx l p) (v+1)).map f).sum=x+f v:=by rw[sB A,M6,w];omega
   refine V _ ⟨Z,.inl Z,?_,?_,Z,Z⟩ Z
   ·dsimp only;rw[I];intro h
    have:r=f v:=ss (O:f v<=a-x);omega
   dsimp only;rw[I];intro h
   have:a-x<r:=u' (O:a-x<f v);omega
  have c:1+((dw (dx l p) v).map f).sum<=fh (l::b2) p/\(en l p<=v->1+((dw (dx l p) v).map f).sum=fh (l::b2) p):=by
   rw[U];by_cases h:v<en l p
   ·refine⟨?_,λE=>O⟩;rw[zc A h,gJ,yF,List.map_cons,List.sum_cons]
    have:=na f (dw (v+1) (en l p)) λy _=>q y
    have:=q v;omega
   have:dw (dx l p) v=dw (dx l p) (en l p):=by
    rcases X with M|M
    ·rw[show v=en l p by omega]
    subst M;rw[lq (gy _),lq O]
   rw[this];exact⟨gy _,λ_=>rfl⟩
  refine⟨λh=>?_,λh=>?_,g,t⟩
  ·have d:=G O;rw[d];apply c.2;apply Int.not_lt.1;intro e;exact s ⟨e,O⟩
  apply Int.not_le.1;intro d;have e:en l p<=v:=by apply Int.not_lt.1;intro e;exact s ⟨e,d⟩
  have:=H (by rw[c.2 e];exact h);omega
theorem D7{a:List Loop}(A:Fit a): ∀(b2:List Loop) (n k:Nat) (p:List Int) (out:List (List Int)),5500000+b2.length<=n->a.drop k=b2->k<=a.length->hv k p->fh b2 p<=1200->out.length<=120->
  aa (pb n out a p) (λr=>(out.length+(e6 b2 p).length<=120->r=out++e6 b2 p)/\(120<out.length+(e6 b2 p).length->120<r.length))
 | [],n,k,p,out,Q,B,R,o,W,T=>by
  obtain⟨n,rfl⟩: ∃j,n=j+1:=⟨n-1,O⟩
  have U:=zO B R;have q:=o.1;have C:=A.1;unfold pb;rw[bp (show(p.length:Int)=(a.length:Int) by omega)];refine bY (ag (mL p O) (ag (cW bX) (aa.some ⟨λ_=>rfl,λh=>by simp[e6] at h ⊢; omega⟩)))
 |l::b2,n,k,p,out,Q,B,R,o,W,T=>by
  obtain⟨n,rfl⟩: ∃j,n=j+1:=⟨n-1,O⟩
  obtain⟨X,V,d3⟩:=zs B;obtain⟨t,u⟩:=A.2 k l X;have q:=o.1;have C:=A.1;have D:k<=3:=O
  simp only[List.length_cons] at Q;unfold pb;rw[bs (show¬(p.length:Int)=(a.length:Int) by omega)];refine bS (ag (x:=l) (by rw[q];exact a' X) (ag (Ls O t u o) ?_));let f:Int->Int:=λv=>fh b2 (p++[v]);have e: ∀v,1<=f v:=λv=>AR _ _;have Y:fh (l::b2) p=1+((dw (dx l p) (en l p)).map f).sum:=rfl;let g:Int->List (List Int):=λv=>e6 b2 (p++[v]);have xq:e6 (l::b2) p=(dw (dx l p) (en l p)).flatMap g:=rfl;have E:dx l p<=en l p->en l p-dx l p<=1199:=λF=>by
   have:=na f (dw (dx l p) (en l p)) λy _=>e y
   have:=acg F;omega
  refine aa.loop (λx:List (List Int)×Int=>dx l p<=x.2/\(x.2<=en l p\/x.2=dx l p)/\(out.length+((dw (dx l p) x.2).flatMap g).length<=120->x.1=out++(dw (dx l p) x.2).flatMap g)/\(120<out.length+((dw (dx l p) x.2).flatMap g).length->120<x.1.length))
   (λx=>(en l p-x.2).toNat) ?_ n _ ⟨gy _,.inr rfl,λ_=>by rw[lq (gy _)];simp,λh=>by rw[lq (gy _)] at h;simp at h;omega⟩ Z
  rintro G ⟨x,v⟩ ⟨s,I,H,K⟩ bO;dsimp only at s I H K⊢;refine aa.aI (λz=>z=decide (v<en l p/\x.length<=120)) (λj M=>aR (λh=>M _ ?_) λh=>M _ ?_) λz eG=>?_
  ·by_cases c:x.length<=120
   ·rw[bp (show(x.length:Int)<=120 by omega),bp ⟨h,c⟩]
   rw[bs (show¬(x.length:Int)<=120 by omega),bs λh=>c h.2]
  ·rw[bs λN=>h N.1]
  subst eG;refine aR (λ⟨d,c⟩=>?_) λw=>aa.some ?_
  ·have i:x=out++(dw (dx l p) v).flatMap g:=H (by apply Nat.not_lt.1;intro h;have:=K h;omega);have m:=Ax t u o D ⟨s,d⟩;have L:f v<=1200:=by
    rw[Y,zc s d,gJ,yF,List.map_cons,List.sum_cons] at W
    have:=na f (dw (v+1) (en l p)) λy _=>e y
    have:=na f (dw (dx l p) v) λy _=>e y;omega
   refine ag (mL p O) (ag (cW bX) (gA (D7 A b2 n (k+1) (p++[v]) x O V O m L c) λr ⟨ss,u'⟩=>?_));have QE: -1000000000<=v/\v<=1000000000:=by
    have h9:=m.2.2 v a1;have kC:=rn m.2.1;simp only[cB] at h9;omega
   rw[bf (n:=v+1) O];have P:(dw (dx l p) (v+1)).flatMap g=(dw (dx l p) v).flatMap g++g v:=by rw[sB s,lE];simp
   refine bO _ ⟨Z,.inl Z,?_,?_⟩ Z
   ·dsimp only;rw[P];intro h;simp only[List.length_append] at h;have b9:x.length=out.length+((dw (dx l p) v).flatMap g).length:=by rw[i,cP]
    rw[ss (O:x.length+(g v).length<=120),i,fs]
   dsimp only;rw[P];intro h;simp only[List.length_append] at h;have b9:x.length=out.length+((dw (dx l p) v).flatMap g).length:=by rw[i,cP]
   exact u' (O:120<x.length+(g v).length)
  have b:((dw (dx l p) v).flatMap g).length<=(e6 (l::b2) p).length/\(en l p<=v->(dw (dx l p) v).flatMap g=e6 (l::b2) p):=by
   rw[xq];by_cases h:v<en l p
   ·refine⟨?_,λN=>O⟩;rw[zc s h,lE,cP];omega
   have:dw (dx l p) v=dw (dx l p) (en l p):=by
    rcases I with S|S
    ·rw[show v=en l p by omega]
    subst S;rw[lq (gy _),lq O]
   rw[this];exact⟨cD _,λ_=>rfl⟩
  refine⟨λh=>?_,λh=>?_⟩
  ·have c:=H O;rw[c,b.2];apply Int.not_lt.1;intro d;exact w ⟨d,by rw[c,cP];omega⟩
  apply Nat.not_le.1;intro c;have d:en l p<=v:=by apply Int.not_lt.1;intro d;exact w ⟨d,c⟩
  have:=K (by rw[b.2 d];exact h);omega
theorem Ms{a:List Loop}(A:Fit a): ∀(b2:List Loop) (n k:Nat) (p:List Int) (st:Int) (out:List (List Int)),5500000+b2.length<=n->a.drop k=b2->k<=a.length->hv k p->0<=st->st<=1199->out.length<=120->
  aa (qh n ⟨a,st,out⟩ p) (λr=>(st+fh b2 p<=1200/\out.length+(e6 b2 p).length<=120->r=(true,⟨a,st+fh b2 p-1,out++e6 b2 p⟩))/\(¬(st+fh b2 p<=1200/\out.length+(e6 b2 p).length<=120)->r.1=false))
 | [],n,k,p,st,out,R,C,W,i,X,t,m=>by
  obtain⟨n,rfl⟩: ∃j,n=j+1:=⟨n-1,O⟩
  have oO:=zO C W;have q:=i.1;have D:=A.1;unfold qh;dsimp only;rw[bp (show(p.length:Int)=(a.length:Int) by omega)];have c:jh p=some p:=by unfold jh;rw[aW O]
  refine bY (ag c (ag (cW bX) (aa.some ⟨λh=>?_,λh=>?_⟩)))
  ·simp only[fh,e6,List.length_singleton] at h⊢;rw[bp bX,show st+1-1=st by omega]
  simp only[fh,e6,List.length_singleton] at h⊢;exact bs bX
 |l::b2,n,k,p,st,out,R,C,W,i,X,t,m=>by
  obtain⟨n,rfl⟩: ∃j,n=j+1:=⟨n-1,O⟩
  obtain⟨u,d2,d3⟩:=zs C;obtain⟨E,I⟩:=A.2 k l u;have q:=i.1;have D:=A.1;have F:k<=3:=O
  simp only[List.length_cons] at R;unfold qh;dsimp only;rw[bs (show¬(p.length:Int)=(a.length:Int) by omega)];refine bS (ag (x:=l) (by rw[q];exact a' u) (ag (Yt O E I i) ?_));let f:Int->Int:=λv=>fh b2 (p++[v]);have b: ∀v,1<=f v:=λv=>AR _ _;have M:fh (l::b2) p=1+((dw (dx l p) (en l p)).map f).sum:=rfl;let g:Int->List (List Int):=λv=>e6 b2 (p++[v]);have N:e6 (l::b2) p=(dw (dx l p) (en l p)).flatMap g:=rfl;refine aa.loop (λx:List Loop×Int×List (List Int)×Int=>x.1=a/\dx l p<=x.2.2.2/\(x.2.2.2<=en l p\/x.2.2.2=dx l p)/\x.2.1=st+((dw (dx l p) x.2.2.2).map f).sum/\x.2.2.1=out++(dw (dx l p) x.2.2.2).flatMap g/\0<=x.2.1/\x.2.1<=1199/\x.2.2.1.length<=120)
   (λx=>(1200-x.2.1).toNat) ?_ n _ ⟨rfl,gy _,.inr rfl,by dsimp only;rw[lq (gy _)];simp,by dsimp only;rw[lq (gy _)];simp,X,t,m⟩ Z
  rintro G ⟨H,x,o,v⟩ ⟨P,s,S,B,e,i5,i6,T⟩ bO;dsimp only at P s S B e i5 i6 T⊢;subst P;have mS:o.length=out.length+((dw (dx l p) v).flatMap g).length:=by rw[e,cP]
  refine aR (λK=>?_) λK=>aa.some ?_
  ·have d:=Ax E I i F ⟨s,K⟩;have L:fh (l::b2) p≥1+((dw (dx l p) v).map f).sum+f v/\(e6 (l::b2) p).length≥((dw (dx l p) v).flatMap g).length+(g v).length:=by
    rw[M,N,zc s K,gJ,yF,List.map_cons,List.sum_cons,lE,cP,yE,cP]
    have:=na f (dw (v+1) (en l p)) λy _=>b y;constructor
    ·omega
    omega
   have QE: -1000000000<=v/\v<=1000000000:=by
    have h9:=d.2.2 v a1;have kC:=rn d.2.1;simp only[cB] at h9;omega
   have e1:wr (x+1)=x+1:=by rw[bf O]
   have e2:wr (x+1+1)=x+1+1:=by rw[bf O]
   have lX:wr (v+1)=v+1:=by rw[bf O]
   rw[e1,e2,lX];refine aa.aI (λz:List Loop×Int×List (List Int)×Bool=>(z.2.2.2=false->z.1=H/\x+f v<=1199/\o.length+(g v).length<=120/\z.2.1=x+f v/\z.2.2.1=o++g v)/\(z.2.2.2=true-> ¬(st+fh (l::b2) p<=1200/\out.length+(e6 (l::b2) p).length<=120)))
    (λj Q=>aR (λh=>Q _ ⟨λh'=>(by cases h'),λ_=>?_⟩) λh=>?_) λz eG=>?_
   ·have:=b v;omega
   ·have c:jh p=some p:=by unfold jh;rw[aW O]
    refine ag c (ag (cW bX) (gA (Ms A b2 n (k+1) (p++[v]) (x+1) o O d2 O d O O T) λr ⟨ss,u'⟩=>?_));by_cases c:x+1+f v<=1200/\o.length+(g v).length<=120
    ·rw[ss c];exact Q _ ⟨λ_=>⟨rfl,O,c.2,show x+1+f v-1=x+f v by omega,rfl⟩,λh=>(by cases h)⟩
    have w:=u' c;obtain⟨ajw,⟨dR,ajx,ro⟩⟩:=r;dsimp only at w⊢;subst w;exact Q _ ⟨λh=>(by cases h),λ_=>O⟩
   obtain⟨JU,ajB,ajC,ajm⟩:=z;obtain⟨U,V⟩:=eG;dsimp only at U V⊢;cases ajm with
   |true=>exact aa.some ⟨λh=>bt h (V rfl),λ_=>rfl⟩
   |false=>
    obtain⟨rfl,ajh,JQ,Sc,Y⟩:=U rfl;refine bO _ ⟨rfl,Z,.inl Z,?_,?_,by dsimp only;have:=b v;omega,Z,?_⟩ (by dsimp only;have:=b v;omega)
    ·dsimp only;rw[sB s,M6,Sc,B];omega
    ·dsimp only;rw[Y,e,sB s,lE];simp
    dsimp only;rw[Y,cP];exact JQ
  have:dw (dx l p) v=dw (dx l p) (en l p):=by
   rcases S with m|m
   ·rw[show v=en l p by omega]
   subst m;rw[lq (gy _),lq O]
  rw[this] at B e mS;rw[<-N] at e mS;refine⟨λh=>?_,λh=>?_⟩
  ·rw[e,B,M,show st+(1+((dw (dx l p) (en l p)).map f).sum)-1=st+((dw (dx l p) (en l p)).map f).sum by omega]
  exact bt ⟨O,O⟩ h
def iX(a:List Loop):Option (List (List Int)):=if ke a=true/\fh a []<=1200/\(e6 a []).length<=120 then some (e6 a []) else none
def rE:Option (List (List Int))->List (List Int)×Bool
 |none=>([],false)
 |some l=>(l,true)
theorem yb:hv 0 []:=⟨rfl,O,λx h=>by cases h⟩
theorem Tk(i:6600000<=n)(h:pI o):CM n o=some (rE (iX o)):=by
 refine aa.eq ?_;unfold CM;refine ag (TJ O h) ?_;unfold iX;cases c:ke o with
 |false=>exact aa.some (by simp[rE])
 |true=>
  have b:=A5 c;refine gA (Ms b o n 0 [] 0 [] (by have:=b.1;omega) rfl O yb O O a1) λr ⟨d,e⟩=>?_;by_cases a:(0:Int)+fh o []<=1200/\([]:List (List Int)).length+(e6 o []).length<=120
  ·rw[d a,aW ⟨rfl,O,by simpa using a.2⟩];exact aa.some (by simp[rE])
  rw[e a,aT λh=>a ⟨O,by simpa using h.2.2⟩];exact aa.some rfl
theorem Th(m:6600000<=n)(h:pI o):CB n o=some (rE (iX o)):=by
 refine aa.eq ?_;unfold CB;refine aa.aI (λz=>z= !(ke o&&decide (fh o []<=1200))) (λj k=>ag (Ty O h) ?_) λz l=>?_
 ·cases b:ke o with
  |false=>exact k _ (by rw[b];rfl)
  |true=>
   have c:=A5 b;refine gA (Mb c o n 0 [] 1200 (by have:=c.1;omega) rfl O yb O O) λr ⟨d,e,p,q⟩=>k _ ?_;rw[b,eW];by_cases a:fh o []<=1200
   ·rw[bp a,bs (by rw[d a];omega)];rfl
   rw[bs a,bp (e O)];rfl
 subst l;unfold iX;cases b:ke o with
 |false=>exact aa.some (by simp[rE])
 |true=>
  have c:=A5 b;by_cases a:fh o []<=1200
  ·rw[bp a];refine gA (D7 c o n 0 [] [] (by have:=c.1;omega) rfl O yb a a1) λr ⟨d,e⟩=>?_;by_cases i:(e6 o []).length<=120
   ·rw[d (by simpa using i),aW ⟨rfl,a,i⟩];refine aR (λh=>bt h bX) λ_=>aa.some (by simp[rE])
   have:=e bX;rw[aT λh=>i h.2.2];exact aR (λ_=>aa.some rfl) λh=>bt h O
  rw[bs a,aT λh=>a h.2.1];exact aa.some rfl
def nb(s:List UInt8):Bool:=match s with
 | [b]=>decide (65<=b.toNat/\b.toNat<=68)
 |_=>false
theorem Ex(h:s.length≠1):nb s=false:=by
 match s,h with
 | [],_=>rfl
 | [b],h=>exact bt rfl h
 |_::_::_,_=>rfl
theorem Hr(h:s.length=1): ∃b,s=[b]:=by
 match s,h with
 | [b],_=>exact⟨b,rfl⟩
theorem w4(b:UInt8)(k:Nat)(a:k<256):(b=UInt8.ofNat k)↔b.toNat=k:=by
 constructor
 ·intro h;rw[h];simp;omega
 intro h;rw[<-h];simp
theorem Uc(b:UInt8):Lib.contains [65,66,67,68] [b]=decide (65<=b.toNat/\b.toNat<=68):=by
 have h:(b=65)↔b.toNat=65:=w4 b 65 O;have i:(b=66)↔b.toNat=66:=w4 b 66 O;have k:(b=67)↔b.toNat=67:=w4 b 67 O;have l:(b=68)↔b.toNat=68:=w4 b 68 O;by_cases a:b=65
 ·subst a;decide
 by_cases c:b=66
 ·subst c;decide
 by_cases d:b=67
 ·subst d;decide
 by_cases e:b=68
 ·subst e;decide
 rw[h] at a;rw[i] at c;rw[k] at d;rw[l] at e;rw[bs O];rw[<-h] at a;rw[<-i] at c;rw[<-k] at d;rw[<-l] at e;simp[Lib.contains,Lib.index,a,c,d,e]
theorem Kt(n:Nat)(s:List UInt8):yT n s=some (nb s):=by
 unfold yT;by_cases h:s.length=1
 ·obtain⟨b,rfl⟩:=Hr h;simp only[aI,xY];rw[aW a1,Uc];rfl
 rw[bs (show¬(s.length:Int)=1 by omega),Ex h];rfl
theorem K'(b:UInt8):Op.bytesLess [b] [65]=decide (b.toNat<65):=by simp[Op.bytesLess,UInt8.lt_iff_toNat_lt]
theorem K9(b:UInt8):(Op.bytesLess [b] [68]||[b]==[68])=decide (b.toNat<=68):=by
 have e:(b=68)↔b.toNat=68:=w4 b 68 O;by_cases h:b=68
 ·subst h;decide
 have c:b.toNat≠68:=λa=>h (e.2 a)
 have:([b]==[(68:UInt8)])=false:=by simp[h]
 rw[this,Bool.or_false];simp only[Op.bytesLess,Bool.and_false,Bool.or_false,UInt8.lt_iff_toNat_lt];apply decide_eq_decide.2;show b.toNat<68↔_;omega
def fK(a:b7)(d:Int):Bool:=a.bD.all (λx=>eI x d)&&(nb a.array&&decide (1<=a.bD.length/\a.bD.length<=2))
theorem YA(b:5500000<=n)(c:hG a)(d:Int):x8 n a d=some (!eI a d):=LS b c d
theorem Kd(b:5500000<=n){a:b7}(c:ju a.bD)(d:Int):yz n a d=some (fK a d):=by
 obtain⟨m,h⟩:=c;unfold yz;rw[Kt,JT];have bB:=xQ (n:=n) (f:=λi=>x8 n i d) (p:=λa=> !eI a d) (l:=a.bD) (λx k=>YA b (h x k) d) O O;simp only[aI,Option.bind];rw[bB];unfold fK;have e:(a.bD.any λa=> !eI a d)= !(a.bD.all λa=>eI a d):=by
  rw[sM];simp
 rw[e];cases nb a.array<;>cases decide (1<=a.bD.length/\a.bD.length<=2)<;>simp
theorem Ka(B:5500000<=n){a:b7}(r:ju a.bD)(d:Int):yt n a d=some (fK a d):=by
 obtain⟨K,F⟩:=r;refine aa.eq ?_;unfold yt;refine o' (l:=a.bD) (p:=λ_ a=>eI a d) O O (λk i x o w y=>?_) (λk q=>?_) (λ⟨i,x,o,G⟩=>?_)
 ·have aD:=(bM.1 o).1;have hm:=F x (bC o);rw[bp (show(i:Int)<(a.bD.length:Int) by omega)];refine bY (aa.aI (λz=>z= !eI x d) (λj m=>ag (a' o) (ag (Jh B x hm) ?_)) λz A=>?_)
  ·cases r:cN x with
   |false=>exact m _ (by unfold eI;rw[r];rfl)
   |true=>exact ag (yu B hm) (m _ (by unfold eI;rw[r,B3];simp))
  subst A;cases s:eI x d with
  |true=>show aa (k _) _;rw[bf O];exact w s
  |false=>exact aa.some (y s)
 ·rw[bs (show¬(a.bD.length:Int)<(a.bD.length:Int) by omega)];have e:a.bD.all (λa=>eI a d)=true:=fC.2 λc H=>by obtain⟨i,aD⟩:=kT H;exact q i c aD
  unfold fK;rw[e,eW];refine bS (aa.aI (λz=>z=(nb a.array&&decide (1<=a.bD.length/\a.bD.length<=2))) (λj m=>?_) λz A=>aa.some A);by_cases h:a.array.length=1
  ·rw[bp (show(a.array.length:Int)=1 by omega)];obtain⟨b,s⟩:=Hr h;rw[s] at m⊢;rw[K',K9];show aa (bif _ then _ else _) _;simp only[nb] at m⊢;by_cases C:b.toNat<65
   ·rw[bp C];exact m _ (by rw[bs (show¬(65<=b.toNat/\b.toNat<=68) by omega)];rfl)
   rw[bs C];by_cases D:b.toNat<=68
   ·rw[bp D];rw[bp (O:65<=b.toNat/\b.toNat<=68)] at m⊢;refine aR (λh=>m _ ?_) λh=>m _ ?_
    ·by_cases L:a.bD.length<=2
     ·rw[bp (show(a.bD.length:Int)<=2 by omega),bp O];rfl
     rw[bs (show¬(a.bD.length:Int)<=2 by omega),bs O];rfl
    rw[bs O];rfl
   rw[bs D];exact m _ (by rw[bs (show¬(65<=b.toNat/\b.toNat<=68) by omega)];rfl)
  rw[bs (show¬(a.array.length:Int)=1 by omega)];exact m _ (by rw[Ex h];rfl)
 unfold fK;rw[iR.2 ⟨x,bC o,by rw[G];simp⟩];rfl
def gS(a:az):Bool:=decide (a.aU.length=0)&&decide (a.const=0)
def jj(a:b7):Bool:=decide (a.array=[])&&decide (a.bD.length=0)
theorem Bh(k:Nat):decide ((k:Int)=0)=decide (k=0):=decide_eq_decide.2 O
theorem T9(n:Nat)(a:az):yx n a=some (gS a):=by unfold yx gS;rw[Bh];cases decide (a.aU.length=0)<;>rfl
theorem VA(n:Nat)(a:az):vG n a=some (gS a):=by unfold vG gS;rw[Bh];cases decide (a.aU.length=0)<;>rfl
theorem T'(n:Nat)(a:b7):sg n a=some (jj a):=by unfold sg jj;rw[Bh];cases decide (a.array=[])<;>rfl
theorem UW(n:Nat)(a:b7):vh n a=some (jj a):=by unfold vh jj;rw[Bh];cases decide (a.array=[])<;>rfl
def ei(e:Expr)(d:Int):Bool:=
 if e.kind=2 then decide (e.num=0)&&(jj e.read&&eI e.index d)
 else if e.kind=3 then decide (e.num=0)&&(gS e.index&&fK e.read d)
 else if e.kind=1 then decide (0<=e.num/\e.num<=99)&&(gS e.index&&jj e.read)
 else decide (e.num=0)&&(gS e.index&&jj e.read)
def fb(k:Int):Int:=if k=1\/k=2\/k=3 then 0 else if k=4\/k=5\/k=6 then 2 else-1
theorem VB(n:Nat)(k:Int):Ag n k=some (fb k):=by
 unfold Ag fb;by_cases a:k=1
 ·subst a;rfl
 by_cases b:k=2
 ·subst b;rfl
 by_cases c:k=3
 ·subst c;rfl
 by_cases d:k=4
 ·subst d;rfl
 by_cases e:k=5
 ·subst e;rfl
 by_cases h:k=6
 ·subst h;rfl
 simp[aI,a,b,c,d,e,h]
theorem WO(a:5500000<=n){e:Expr}(b:hG e.index)(c:ju e.read.bD)(d:Int):Av n e d=some (ei e d):=by
 unfold Av ei;rw[UW,VA,Jh a _ b,yu a b,Ka a c];by_cases cv:e.kind=2
 ·rw[aW cv,bp cv];simp only[aI,Option.bind,cond_true,eI];cases decide (e.num=0)<;>cases jj e.read<;>cases cN e.index<;>simp
 rw[aT cv,bs cv];by_cases dU:e.kind=3
 ·rw[aW dU,bp dU];simp only[aI,Option.bind,cond_true,cond_false];cases decide (e.num=0)<;>cases gS e.index<;>simp
 rw[aT dU,bs dU];by_cases ez:e.kind=1
 ·rw[aW ez,bp ez];simp only[aI,Option.bind,cond_true,cond_false];by_cases h:0<=e.num<;>by_cases i:e.num<=99<;>cases gS e.index<;>simp[h,i]
 rw[aT ez,bs ez];simp only[aI,Option.bind,cond_false];cases decide (e.num=0)<;>cases gS e.index<;>simp
end
section
def tc:Nat->Expr->Prop
 |0,_=>True
 |L+1,e=>e.bj.length<=1100000/\hG e.index/\ju e.read.bD/\ ∀k∈e.bj,tc L k
def dr:Nat->Expr->Int->Bool
 |0,_,_=>false
 |L+1,e,d=>decide (fb e.kind=e.bj.length)&&(ei e d&&e.bj.all λk=>dr L k d)
def dp:Nat->Expr->Int
 |0,_=>1
 |L+1,e=>1+(e.bj.map (dp L)).sum
theorem o4(k:Int):fb k<=2:=by unfold fb;split;omega;split<;>omega
theorem Kx(d:Int): ∀(L n:Nat) (e:Expr),5500000+L<=n->L<=1100000->tc L e->qD (n+1) e d (L:Int)=some (dr L e d)
 |0,n,e,_,_,_=>by unfold qD;rfl
 |L+1,n,e,K,Q,y=>by
  obtain⟨R,A,B,C⟩:=y;unfold qD;refine aa.eq ?_;refine aa.aI (λz=>z= !(decide (fb e.kind=e.bj.length)&&ei e d)) (λj r=>aR (λh=>O) λh=>ag (VB n _) (dZ (λh=>r _ ?_) λh=>ag (WO O A B d) (r _ ?_))) λz D=>?_
  ·rw[bs h];rfl
  ·rw[bp h];rfl
  subst D;unfold dr;cases s:(decide (fb e.kind=e.bj.length)&&ei e d) with
  |false=>exact aa.some (by rw[<-lG,s];rfl)
  |true=>
   rw[<-lG,s,eW];refine bS ?_;obtain⟨n,rfl⟩: ∃j,n=j+1:=⟨n-1,O⟩
   have F:wr (((L+1:Nat):Int)-1)=(L:Int):=by rw[bf O];omega
   rw[F];refine o' (l:=e.bj) (p:=λ_ k=>dr L k d) O O (λa i x b o q=>?_) (λa m=>?_) (λ⟨i,x,b,G⟩=>?_)
   ·have aD:=(bM.1 b).1;rw[bp (show(i:Int)<(e.bj.length:Int) by omega)];refine bY (ag (a' b) (ag (Kx d L n x O O (C x (bC b))) ?_));cases w:dr L x d with
    |true=>show aa (a _) _;rw[bf O];exact o w
    |false=>exact aa.some (q w)
   ·rw[bs (show¬(e.bj.length:Int)<(e.bj.length:Int) by omega)];refine aa.some ?_;exact(fC.2 λc H=>by obtain⟨i,aD⟩:=kT H;exact m i c aD).symm
   exact(iR.2 ⟨x,bC b,by rw[G];simp⟩).symm
theorem qQ: ∀(L:Nat) (e:Expr),1<=dp L e
 |0,_=>gy _
 |L+1,e=>by have:=na (dp L) e.bj λk _=>qQ L k;simp only[dp];omega
theorem AU{a:Type}(f:a->Int)(M:Int): ∀(l:List a),(∀x∈l,f x<=M)->(l.map f).sum<=l.length*M
 | [],_=>a1
 |x::l,h=>by have c:=AU f M l λy b=>h y (by simp[b]);have d:=h x a1;simp only[List.map_cons,List.sum_cons,List.length_cons,Int.natCast_add,Int.add_mul];omega
variable {d c:Int}{n i k:Nat}{s:Stmt}{r:List cx}{x:Part}{a:b7}{p:Prog}{q m:List Int}
theorem gM{L:Nat}{e:Expr}(h:dr (L+1) e d=true):fb e.kind=e.bj.length/\ei e d=true/\ ∀k∈e.bj,dr L k d=true:=by simp only[dr,Bool.and_eq_true,decide_eq_true_eq,List.all_eq_true] at h;exact⟨h.1,h.2.1,h.2.2⟩
theorem AZ: ∀{L:Nat} {e:Expr} {d:Int},dr L e d=true->dp L e+1<=2^L
 |0,e,d,h=>by cases h
 |L+1,e,d,h=>by
  obtain⟨c,_,a⟩:=gM h;have i:=AU (dp L) ((2:Int)^L-1) e.bj λk b=>by have:=AZ (a k b);omega
  have l:=o4 e.kind;have m:(e.bj.length:Int)*((2:Int)^L-1)<=2*((2:Int)^L-1):=by
   refine Int.mul_le_mul_of_nonneg_right O ?_
   have:(0:Int)<2^L:=Int.pow_pos O;omega
  simp only[dp];rw[Int.pow_succ];omega
theorem Ky{d:Int}: ∀(L n:Nat) (e:Expr),5500000+L<=n->L<=5->dr L e d=true->sv (n+1) e (L:Int)=some (dp L e)
 |0,n,e,_,_,h=>by cases h
 |L+1,n,e,H,r,h=>by
  obtain⟨K,_,o⟩:=gM h;have Q:=o4 e.kind;have p: ∀k∈e.bj,dp L k<=40:=λk b=>by
   have R:=AZ (o k b);have W:(2:Int)^L<=40:=by
    match L,r with
    |0,_=>decide
    |1,_=>decide
    |2,_=>decide
    |3,_=>decide
    |4,_=>decide
   omega
  unfold sv;refine aa.eq ?_;obtain⟨n,rfl⟩: ∃j,n=j+1:=⟨n-1,O⟩
  have s:wr (((L+1:Nat):Int)-1)=(L:Int):=by rw[bf O];omega
  rw[s];refine aa.loop (λx:Int×Int=> ∃i:Nat,x.2=i/\i<=e.bj.length/\x.1=1+((e.bj.take i).map (dp L)).sum) (λx=>e.bj.length-x.2.toNat) ?_ (n+1) _ ⟨0,rfl,O,a1⟩ bX;rintro c ⟨x,k⟩ ⟨i,b,X,l⟩ w;dsimp only at b l⊢;subst b;refine aa.aI (λz=>z=decide (i<e.bj.length)) (λj q=>aR (λh=>q _ ?_) λh=>q _ ?_) λz A=>?_
  ·rw[bp (show(0:Int)<((L+1:Nat):Int) by omega),bp O]
  ·rw[bs O]
  subst A;refine aR (λm=>?_) λB=>aa.some ?_
  ·have a:=bg m;have hm:=bC a;refine ag (a' a) (ag (Ky (d:=d) L n _ O O (o _ hm)) ?_);have hs:=AU (dp L) 40 (e.bj.take i) λy C=>p y (fU C);have D:=na (dp L) (e.bj.take i) λy _=>qQ L y;have F:=p _ hm;have G:=qQ L e.bj[i];have f:((e.bj.take i).length:Int)<=2:=bX
   rw[bf (n:=x+dp L e.bj[i]) O,bf O];refine w _ ⟨i+1,Z,O,?_⟩ Z;dsimp only;rw[dV,a,gJ,yF,l];simp;omega
  have:i=e.bj.length:=O
  rw[l,this,cT];rfl
def wZ(e:Expr):Bool:=(decide (e.kind=1)||decide (e.num=0))&&((decide (e.kind=2)||gS e.index)&&(decide (e.kind=3)||jj e.read))
theorem JD(d:Int): ∀(L n:Nat) (e:Expr) (c:Int),5500000+L<=n->L<=5->tc L e->0<=c->c<=12->
  aa (oX (n+1) e d (6-(L:Int)) c) (λr=>r.1=(dr L e d&&decide (c+dp L e<=12))/\(r.1=true->r.2=c+dp L e))
 |0,n,e,c,N,P,u,S,T=>by
  unfold oX;refine aa.aI (λz=>z=true) (λj i=>aR (λh=>i _ rfl) λh=>i _ (by decide)) λz m=>?_;subst m;exact aa.some ⟨rfl,λh=>by cases h⟩
 |L+1,n,e,c,N,P,u,S,T=>by
  obtain⟨e1,v,U,E⟩:=u;have V:=qQ (L+1) e;unfold oX;have Y:wr (c+1)=c+1:=bf O;have ai0:wr (6-(((L+1:Nat)):Int)+1)=6-(L:Int):=by rw[bf O];omega
  rw[Y,ai0];refine aa.aI (λz=>z=decide (12<c+1)) (λj i=>aR (λh=>i _ (bp h).symm) λh=>i _ ?_) λz m=>?_
  ·rw[bs h,bs O]
  subst m;refine aR (λh=>aa.some ⟨?_,λh=>by cases h⟩) λbB=>?_
  ·rw[bs (show¬c+dp (L+1) e<=12 by omega),iS]
  refine aa.aI (λz=>z= !wZ e) (λj i=>?_) λz m=>?_
  ·rw[T9,T'];unfold wZ at i;simp only[Option.bind];by_cases ez:e.kind=1
   ·have cv: ¬e.kind=2:=O
    have dU: ¬e.kind=3:=O
    rw[bp ez,bs cv,bs dU] at*;simp only[Bool.not_true,Bool.not_false,cond_true,cond_false,Bool.true_or,Bool.true_and,Bool.false_or] at*;cases K:gS e.index with
    |false=>exact i _ (by rw[K];rfl)
    |true=>exact i _ (by rw[K];rfl)
   rw[bs ez] at*;simp only[Bool.not_false,cond_true,Bool.false_or] at*;by_cases o:e.num=0
   ·rw[bp o] at*;simp only[Bool.not_true,cond_false,Bool.true_and] at*;by_cases cv:e.kind=2
    ·have dU: ¬e.kind=3:=O
     rw[bp cv,bs dU] at*;simp only[Bool.not_true,Bool.not_false,cond_true,cond_false,Bool.true_or,Bool.true_and,Bool.false_or] at*;exact i _ rfl
    rw[bs cv] at*;simp only[Bool.not_false,cond_true,Bool.false_or] at*;cases K:gS e.index with
    |false=>exact i _ (by rw[K];rfl)
    |true=>
     by_cases dU:e.kind=3
     ·rw[bp dU] at*;exact i _ (by rw[K];rfl)
     rw[bs dU] at*;exact i _ (by rw[K];rfl)
   rw[bs o] at*;exact i _ rfl
  subst m;cases s:wZ e with
  |false=>
   refine aa.some ⟨?_,λh=>by cases h⟩
   have:ei e d=false:=by
    unfold wZ at s;unfold ei;by_cases cv:e.kind=2
    ·have ez: ¬e.kind=1:=O
     have dU: ¬e.kind=3:=O
     rw[aW cv];rw[bp cv,bs ez,bs dU] at s;revert s;cases decide (e.num=0)<;>cases jj e.read<;>simp
    rw[aT cv];by_cases dU:e.kind=3
    ·have ez: ¬e.kind=1:=O
     rw[aW dU];rw[bs cv,bs ez,bp dU] at s;revert s;cases decide (e.num=0)<;>cases gS e.index<;>simp
    rw[aT dU];rw[bs cv,bs dU] at s;by_cases ez:e.kind=1
    ·rw[aW ez];rw[bp ez] at s;revert s;cases gS e.index<;>cases jj e.read<;>simp
    rw[aT ez];rw[bs ez] at s;revert s;cases decide (e.num=0)<;>cases gS e.index<;>cases jj e.read<;>simp
   unfold dr;rw[this];simp
  |true=>
   refine bS ?_;unfold wZ at s;simp only[Bool.and_eq_true,Bool.or_eq_true,decide_eq_true_eq] at s;obtain⟨ya,I,R⟩:=s;have p: ∀(b:Bool),ei e d=b->fb e.kind=0-> ∀(z:Bool),z=(b&&decide ((e.bj.length:Int)=0))->z=(dr (L+1) e d&&decide (c+dp (L+1) e<=12))/\(z=true->c+1=c+dp (L+1) e):=by
    intro b aV F z m;unfold dr;rw[aV,F];by_cases h:e.bj.length=0
    ·have C:e.bj=[]:=km h;have G:dp (L+1) e=1:=by simp[dp,C]
     rw[G,bp (O:c+1<=12)];rw[bp (show(e.bj.length:Int)=0 by omega)] at m;rw[m,C];simp
    rw[bs (show¬(e.bj.length:Int)=0 by omega)] at m;rw[m,bs (show¬(0:Int)=(e.bj.length:Int) by omega)];simp
   by_cases ez:e.kind=1
   ·have cv: ¬e.kind=2:=O
    have dU: ¬e.kind=3:=O
    rw[bp ez];have l:ei e d=decide (0<=e.num/\e.num<=99):=by
     unfold ei;rw[aT cv,aT dU,aW ez];rcases I with h|h
     ·exact bt h cv
     rcases R with A|A
     ·exact bt A dU
     rw[h,A];simp
    refine bY (aa.aI (λz=>z=(decide (0<=e.num/\e.num<=99)&&decide ((e.bj.length:Int)=0))) (λj i=>ag (iC n _ _ _) ?_) λz m=>aa.some ?_)
    ·cases y:decide (0<=e.num/\e.num<=99) with
     |true=>exact i _ (by rw[y];rfl)
     |false=>exact i _ (by rw[y];rfl)
    exact p _ l (by unfold fb;rw[aW (Or.inl ez)]) _ m
   rw[bs ez];refine bS ?_;have o:e.num=0:=by
    rcases ya with h|h
    ·exact bt h ez
    exact h
   by_cases cv:e.kind=2
   ·have dU: ¬e.kind=3:=O
    rw[bp cv];have l:ei e d=eI e.index d:=by
     unfold ei;rw[aW cv,bp o];rcases R with A|A
     ·exact bt A dU
     rw[A];simp
    refine bY (aa.aI (λz=>z=(eI e.index d&&decide ((e.bj.length:Int)=0))) (λj i=>ag (Sb O _ v) ?_) λz m=>aa.some ?_)
    ·unfold eI at i;cases y:cN e.index with
     |false=>exact i _ (by rw[y];rfl)
     |true=>
      refine ag (DR O v) (aR (λh=>i _ ?_) λh=>i _ ?_)
      ·rw[y,bp h];rfl
      rw[y,bs h];rfl
    exact p _ l (by unfold fb;rw[aW (Or.inr (Or.inl cv))]) _ m
   rw[bs cv];refine bS ?_;have B:gS e.index=true:=by
    rcases I with h|h
    ·exact bt h cv
    exact h
   by_cases dU:e.kind=3
   ·rw[bp dU];have l:ei e d=fK e.read d:=by
     unfold ei;rw[aT cv,aW dU,bp o,B];simp
    refine bY (aa.aI (λz=>z=(fK e.read d&&decide ((e.bj.length:Int)=0))) (λj i=>ag (Kd O U d) ?_) λz m=>aa.some ?_)
    ·cases y:fK e.read d with
     |false=>exact i _ (by rw[y];rfl)
     |true=>exact i _ (by rw[y];rfl)
    exact p _ l (by unfold fb;rw[aW (Or.inr (Or.inr dU))]) _ m
   rw[bs dU];refine bS ?_;have l:ei e d=true:=by
    unfold ei;rw[aT cv,aT dU,aT ez,bp o,B];rcases R with A|A
    ·exact bt A dU
    rw[A];rfl
   have W:rh n e.kind=some (decide (4<=e.kind/\e.kind<=6)):=by unfold rh;rw[iC];rfl
   have H:(fb e.kind=2↔(4<=e.kind/\e.kind<=6))/\(fb e.kind=2\/fb e.kind= -1):=by
    unfold fb;rw[aT O];split<;>omega
   refine aa.aI (λz=>z= !(decide (4<=e.kind/\e.kind<=6)&&decide ((e.bj.length:Int)=2))) (λj i=>ag W ?_) λz m=>?_
   ·cases y:decide (4<=e.kind/\e.kind<=6) with
    |false=>exact i _ (by rw[y];rfl)
    |true=>exact i _ (by rw[y];rfl)
   subst m;by_cases F:(4<=e.kind/\e.kind<=6)/\(e.bj.length:Int)=2
   ·rw[bp F.1,bp F.2];refine bS ?_;obtain⟨a,b,w⟩: ∃a b,e.bj=[a,b]:=by
     have:e.bj.length=2:=O
     match hq:e.bj,this with
     | [a,b],_=>exact⟨a,b,rfl⟩
    have X:dr (L+1) e d=(dr L a d&&dr L b d):=by
     show(decide (fb e.kind=e.bj.length)&&(ei e d&&e.bj.all λk=>dr L k d))=_;rw[l,w,bp (show fb e.kind=(([a,b]:List Expr).length:Int) by rw[H.1.2 F.1];rfl)];simp
    have G:dp (L+1) e=1+(dp L a+dp L b):=by simp[dp,w]
    have ajn:=qQ L a;have ajo:=qQ L b;rw[X,G];obtain⟨n,rfl⟩: ∃j,n=j+1:=⟨n-1,O⟩
    refine aa.aI (λz:Int×Bool=>z.2=(dr L a d&&dr L b d&&decide (c+(1+(dp L a+dp L b))<=12))/\(z.2=true->z.1=c+(1+(dp L a+dp L b)))) (λj i=>?_) λz m=>aa.some m;refine ag (x:=a) (by rw[w];rfl) (gA (JD d L n a (c+1) O O (E a (by rw[w];simp)) O O) λr ⟨D,f⟩=>?_);cases t:r.1 with
    |false=>
     refine i _ ⟨?_,λh=>by cases h⟩;rw[t] at D;show false=_;by_cases Q:dr L a d=true
     ·rw[Q,eW] at D
      have:=of_decide_eq_false D.symm;rw[bs (show¬c+(1+(dp L a+dp L b))<=12 by omega),iS]
     rw[Bool.eq_false_iff.2 Q];rfl
    |true=>
     have f:=f t;rw[t] at D;have D:=D.symm;rw[oc,decide_eq_true_eq] at D;refine ag (x:=b) (by rw[w];rfl) ?_;rw[f];refine gA (JD d L n b (c+1+dp L a) O O (E b (by rw[w];simp)) O O) λq ⟨lz,q2⟩=>i _ ⟨?_,λh=>?_⟩
     ·show q.1=_;rw[lz,D.1,eW];congr 1;exact decide_eq_decide.2 O
     show q.2=_;rw[q2 h];omega
   have hM:dr (L+1) e d=false:=by
    unfold dr;rw[bs (show¬fb e.kind=(e.bj.length:Int) by
     intro h;rcases H.2 with M|M
     ·exact F ⟨H.1.1 M,O⟩
     omega)]
    rfl
   have:(decide (4<=e.kind/\e.kind<=6)&&decide ((e.bj.length:Int)=2))=false:=by
    by_cases g:4<=e.kind/\e.kind<=6
    ·rw[bs (show¬(e.bj.length:Int)=2 from λh=>F ⟨g,h⟩),iS]
    rw[bs g];rfl
   rw[this,hM];exact aa.some ⟨rfl,λh=>by cases h⟩
def ep(s:Stmt)(d:Int):Bool:=decide (0<=d/\d<=4)&&(fK s.write d&&(dr 5 s.value d&&decide (dp 5 s.value<=12)))
def zE(s:Stmt):Prop:=ju s.write.bD/\tc 5 s.value
theorem TI(l:6600000<=n)(h:zE s)(d:Int):C3 n s d=some (ep s d):=by
 obtain⟨n,rfl⟩: ∃j,n=j+1:=⟨n-1,O⟩
 refine aa.eq ?_;unfold C3;generalize a:ep s d=T;unfold ep at a;refine aa.aI (λz:Int×Bool=>z.2=T) (λj b=>ag (iC _ _ _ _) ?_) λz i=>aa.some i;cases c:decide (0<=d/\d<=4) with
 |false=>exact b (0,false) (by rw[<-a,c];rfl)
 |true=>
  refine bY (ag (Kd O h.1 d) ?_);cases e:fK s.write d with
  |false=>exact b (0,false) (by rw[<-a,c,e];rfl)
  |true=>
   refine bY (gA (JD d 5 n s.value 0 O O h.2 O O) λr ⟨k,m⟩=>b _ ?_);rw[<-a,c,e];show r.1=_;rw[k];simp
theorem J1(m:6600000<=n)(h:zE s)(d:Int):yi n s d=some (ep s d):=by
 obtain⟨n,rfl⟩: ∃j,n=j+1:=⟨n-1,O⟩
 refine aa.eq ?_;unfold yi;generalize k:ep s d=T;generalize a:(decide (0<=d/\d<=4)&&(fK s.write d&&dr 5 s.value d))=B;have b:T=(B&&decide (dp 5 s.value<=12)):=by rw[<-k,<-a];unfold ep;simp only[Bool.and_assoc]
 refine aa.aI (λz=>z= !B) (λj c=>aR (λh=>c _ ?_) λo=>aR (λh=>c _ ?_) λp=>ag (Ka O h.1 d) ?_) λz l=>?_
 ·rw[<-a,bs (show¬(0<=d/\d<=4) by omega)];rfl
 ·rw[<-a,bs (show¬(0<=d/\d<=4) by omega)];rfl
 ·rw[bp (O:0<=d/\d<=4)] at a;cases i:fK s.write d with
  |false=>exact bY (c _ (by rw[<-a,i];rfl))
  |true=>exact bS (ag (Kx d 5 n s.value O O h.2) (c _ (by rw[<-a,i];rfl)))
 subst l;cases e:B with
 |false=>exact aa.some (by rw[b,e];rfl)
 |true=>
  rw[e] at a;simp only[Bool.and_eq_true] at a;refine bS (ag (Ky (d:=d) 5 n s.value O O a.2.2) (aa.some ?_));rw[b,e];rfl
def jM(a:List Int):Bool:=decide (1<=a.length/\a.length<=2)&&a.all λd=>decide (1<=d/\d<=6)
def q8(a:List cx)(i:Nat)(x:cx):Bool:=match i with
 |0=>true
 |i+1=>match a[i]? with
  |some y=>Op.bytesLess y.name x.name
  |none=>false
def nE(a:List cx)(i:Nat)(x:cx):Bool:=nb x.name&&(q8 a i x&&jM x.bT)
def jg(a:List cx):Bool:=wT (nE a) a&&decide (a.length<=4)
def Et(a:List cx):Prop:=a.length<=1100000/\ ∀x∈a,x.bT.length<=1100000
theorem KZ{x y:cx}(h:r[i]? =some y):q8 r (i+1) x=Op.bytesLess y.name x.name:=by simp only[q8,h]
theorem abn(a:List Int):(a.any λd=> !decide (1<=d/\d<=6))= !(a.all λd=>decide (1<=d/\d<=6)):=by rw[sM];simp
theorem Ua(W:6600000<=n){w:List cx}(h:Et w):DS n w=some (jg w):=by
 obtain⟨X,H⟩:=h;refine aa.eq ?_;unfold DS;refine o' (l:=w) (p:=nE w) O O (λa i x k q s=>?_) (λa m=>?_) (λ⟨i,x,k,y⟩=>?_)
 ·have aD:=(bM.1 k).1;have hm:=H x (bC k);rw[bp (show(i:Int)<(w.length:Int) by omega)];have K:nG n x.bT (λA=>qd n A)=some (!(x.bT.all λd=>decide (1<=d/\d<=6))):=by
   rw[<-abn];exact CQ (λd _=>by unfold qd;rw[iC];rfl) O O
  refine bY (ag (a' k) (aa.aI (λz=>z= !nE w i x) (λj c=>ag (Kt n _) ?_) λz L=>?_))
  ·unfold nE jM at c;cases B:nb x.name with
   |false=>exact bY (c _ (by rw[B];rfl))
   |true=>
    rw[B] at c;refine bS ?_;rw[JT];have b:q8 w i x=true->aa (Option.bind (some (decide (1<=x.bT.length/\x.bT.length<=2))) λQ=>bif !Q then j true else Option.bind (nG n x.bT λA=>qd n A) λR=>j R) (λr=>r=jg w):=by
     intro y;rw[y] at c;show aa (bif _ then _ else _) _;cases C:decide (1<=x.bT.length/\x.bT.length<=2) with
     |false=>exact bY (c _ (by rw[C];rfl))
     |true=>exact bS (ag K (c _ (by rw[C];rfl)))
    cases i with
    |zero=>exact aR (λh=>bt h (by decide)) (λ_=>b rfl)
    |succ i=>
     have D:=bg (O:i<w.length);have e:wr (((i+1:Nat):Int)-1)=(i:Int):=by rw[bf O];omega
     rw[e];refine aR (λ_=>ag (a' D) ?_) λh=>bt (show(0:Int)<((i+1:Nat):Int) by omega) h;have o:=KZ (x:=x) D;cases F:Op.bytesLess w[i].name x.name with
     |false=>exact bY (c _ (by rw[o,F];rfl))
     |true=>exact bS (b (by rw[o,F]))
  subst L;cases G:nE w i x with
  |true=>show aa (a _) _;rw[bf O];exact q G
  |false=>exact aa.some (s G)
 ·rw[bs (show¬(w.length:Int)<(w.length:Int) by omega)];refine aa.some ?_;unfold jg;rw[CY m,eW];exact decide_eq_decide.2 O
 unfold jg;rw[CL k y];rfl
theorem Z8(s:List UInt8):(!Op.bytesLess s [68]&& !s==[68])= !(Op.bytesLess s [68]||s==[68]):=by cases Op.bytesLess s [68]<;>cases (s==[68])<;>rfl
theorem TU(Y:6600000<=n){a:List cx}(h:Et a):DE n a=some (jg a):=by
 obtain⟨h0,v⟩:=h;refine aa.eq ?_;unfold DE;refine o' (l:=a) (p:=nE a) O O (λq i x w H A=>?_) (λq B=>?_) (λ⟨i,x,w,K⟩=>?_)
 ·have aD:=(bM.1 w).1;have hm:=v x (bC w);rw[bp (show(i:Int)<(a.length:Int) by omega)];refine bY (ag (a' w) (aa.aI (λz=>z= !(nb x.name&&(q8 a i x&&decide (1<=x.bT.length/\x.bT.length<=2)))) (λj c=>?_) λz L=>?_))
  ·refine dZ (λE=>c _ ?_) λE=>?_
   ·rw[Ex O];rfl
   obtain⟨b,o⟩:=Hr (O:x.name.length=1);rw[Z8];have Q: ∀(y:cx),Op.bytesLess y.name x.name=Op.bytesLess y.name [b]:=λy=>by rw[o]
   have R:nb x.name=decide (65<=b.toNat/\b.toNat<=68):=by rw[o];rfl
   have I:Op.bytesLess x.name [65]=decide (b.toNat<65):=by rw[o];exact K' b
   have M:(Op.bytesLess x.name [68]||x.name==[68])=decide (b.toNat<=68):=by rw[o];exact K9 b
   rw[I,M];rw[R] at c;refine aR (λN=>c _ ?_) λN=>dZ (λP=>c _ ?_) λP=>?_
   ·rw[bs (show¬(65<=b.toNat/\b.toNat<=68) by omega)];rfl
   ·rw[bs (show¬(65<=b.toNat/\b.toNat<=68) by omega)];rfl
   rw[bp (O:65<=b.toNat/\b.toNat<=68)] at c;have m:q8 a i x=true->aa (bif decide ((x.bT.length:Int)<1) then j true else j (decide ((2:Int)<(x.bT.length:Int)))) (λr=>r=jg a):=by
    intro K;rw[K] at c;refine aR (λh=>c _ ?_) λh=>c _ ?_
    ·rw[bs (show¬(1<=x.bT.length/\x.bT.length<=2) by omega)];rfl
    by_cases h2:x.bT.length<=2
    ·rw[bs (show¬(2:Int)<(x.bT.length:Int) by omega),bp (O:1<=x.bT.length/\x.bT.length<=2)];rfl
    rw[bp (show(2:Int)<(x.bT.length:Int) by omega),bs (show¬(1<=x.bT.length/\x.bT.length<=2) by omega)];rfl
   cases i with
   |zero=>exact aR (λh=>bt h (by decide)) (λ_=>m rfl)
   |succ i=>
    have f:=bg (O:i<a.length);have e:wr (((i+1:Nat):Int)-1)=(i:Int):=by rw[bf O];omega
    rw[e];refine aR (λ_=>ag (a' f) ?_) λh=>bt (show(0:Int)<((i+1:Nat):Int) by omega) h;have C:=KZ (x:=x) f;cases g:Op.bytesLess a[i].name x.name with
    |false=>exact bY (c _ (by rw[C,g];rfl))
    |true=>exact bS (m (by rw[C,g]))
  subst L;cases o:(nb x.name&&(q8 a i x&&decide (1<=x.bT.length/\x.bT.length<=2))) with
  |false=>
   refine aa.some (A ?_);unfold nE jM;rw[<-lG,<-lG];rw[<-lG] at o;rw[o];rfl
  |true=>
   have D:nE a i x=x.bT.all (λd=>decide (1<=d/\d<=6)):=by
    unfold nE jM;rw[<-lG,<-lG];rw[<-lG] at o;rw[o];rfl
   refine bS ?_;refine aa.loop (λy:Int=> ∃k:Nat,y=k/\k<=x.bT.length/\ ∀(t:Nat) d,t<k->x.bT[t]? =some d->decide (1<=d/\d<=6)=true) (λy=>x.bT.length-y.toNat) ?_ n _ ⟨0,rfl,O,λt d h=>O⟩ bX;rintro G y ⟨k,rfl,hk,u⟩ S;refine aR (λT=>?_) λU=>?_
   ·have cn:=bg (O:k<x.bT.length);have V:wr ((k:Int)+1)=((k+1:Nat):Int):=by rw[bf O];omega
    refine aa.aI (λz=>z= !decide (1<=x.bT[k]/\x.bT[k]<=6)) (λj c=>ag (a' cn) (aR (λh=>c _ ?_) λh=>c _ ?_)) λz L=>?_
    ·rw[bs O];rfl
    ·by_cases h6:x.bT[k]<=6
     ·rw[bs (show¬(6:Int)<x.bT[k] by omega),bp (O:1<=x.bT[k]/\x.bT[k]<=6)];rfl
     rw[bp (show(6:Int)<x.bT[k] by omega),bs (show¬(1<=x.bT[k]/\x.bT[k]<=6) by omega)];rfl
    subst L;cases F:decide (1<=x.bT[k]/\x.bT[k]<=6) with
    |false=>
     refine aa.some (A ?_);rw[D];exact iR.2 ⟨_,bC cn,by rw[F];simp⟩
    |true=>
     rw[V];refine S _ ⟨k+1,rfl,O,λt d W s=>?_⟩ O;by_cases X:t=k
     ·subst X;rw[cn] at s;cases s;exact F
     exact u t d O s
   have e:wr ((i:Int)+1)=(i:Int)+1:=bf O;rw[e];refine H ?_;rw[D];refine fC.2 λd cn=>?_;obtain⟨t,W⟩:=kT cn
   have:=(bM.1 W).1;exact u t d O W
 ·rw[bs (show¬(a.length:Int)<(a.length:Int) by omega)];refine aa.some ?_;unfold jg;rw[CY B,eW];exact decide_eq_decide.2 O
 unfold jg;rw[CL w K];rfl
def gI:List Int->Int
 | []=>1
 |d::a=>d*gI a
theorem GF{d:List Int}(h:jM d=true):(∃a,d=[a]/\1<=a/\a<=6)\/ ∃a b,d=[a,b]/\(1<=a/\a<=6)/\1<=b/\b<=6:=by
 simp only[jM,Bool.and_eq_true,decide_eq_true_eq,List.all_eq_true] at h;obtain⟨⟨e,i⟩,c⟩:=h
 match d,e,i,c with
 | [a],_,_,c=>exact .inl ⟨a,rfl,c a a1⟩
 | [a,b],_,_,c=>exact .inr ⟨a,b,rfl,c a a1,c b a1⟩
theorem PB{a b:Int}(c:1<=a/\a<=6)(d:1<=b/\b<=6):1<=a*b/\a*b<=36:=by
 constructor
 ·have:=qK c.1 d.1 O O;omega
 have:=qK c.2 d.2 O O;omega
theorem rq{d:List Int}(h:jM d=true):1<=gI d/\gI d<=36:=by
 rcases GF h with ⟨a,rfl,c⟩|⟨a,b,rfl,c,e⟩
 ·simp[gI];omega
 have:=PB c e;simp[gI];omega
theorem D8(l:6600000<=n){x:cx}(h:jM x.bT=true):vZ n x=some (gI x.bT):=by
 obtain⟨n,rfl⟩: ∃j,n=j+3:=⟨n-3,O⟩
 unfold vZ;rcases GF h with ⟨a,e,d⟩|⟨a,b,e,d,i⟩
 ·rw[e];have c:wr a=a:=bf O;simp[bc,av,gI,c,show wr 1=1 from bf O]
 rw[e]
 have:=PB d i;have c:wr a=a:=bf O;have k:wr (a*b)=a*b:=bf O;simp[bc,av,gI,c,k,show wr 1=1 from bf O,show wr 2=2 from bf O]
theorem Yu(a:6600000<=n){x:cx}(h:jM x.bT=true):CP n x=some (gI x.bT):=D8 a h
def gX:List az->List Int->List Int->Int->Int
 |s::b,d::c,p,a=>if 0<=fJ s p/\fJ s p<d then gX b c p (a*d+fJ s p) else-1
 |_,_,_,a=>a
def ev:List cx->b7->List Int->Int->Int
 | [],_,_,_=> -1
 |x::c,a,p,b=>if x.name=a.array then(if a.bD.length=x.bT.length then(if gX a.bD x.bT p 0<0 then-1 else b+gX a.bD x.bT p 0) else-1) else ev c a p (b+gI x.bT)
def kK(a:List cx):Prop:= ∀x∈a,jM x.bT=true
theorem aeb{d:List Int}(e:jM d=true){l:List az}(c:l.length=d.length)(p:List Int):gX l d p 0= -1\/(0<=gX l d p 0/\gX l d p 0<gI d):=by
 rcases GF e with ⟨a,rfl,h⟩|⟨a,b,rfl,h,k⟩
 ·match l,c with
  | [s],_=>
   simp only[gX,gI,Int.zero_mul,Int.zero_add,Int.mul_one];split<;>omega
 match l,c with
 | [s,t],_=>
  simp only[gX,gI,Int.zero_mul,Int.zero_add,Int.mul_one];split
  ·rename_i i;split
   ·rename_i m;refine .inr ⟨?_,?_⟩
    ·have:=mo i.1 (O:0<=b);omega
    have:=Int.mul_le_mul_of_nonneg_right (O:fJ s p<=a-1) (O:0<=b);rw[Int.sub_mul] at this;omega
   exact .inl rfl
  exact .inl rfl
def fQ(a:List cx):Int:=(a.map λx=>gI x.bT).sum
theorem N2: ∀{xs:List cx},kK xs-> ∀(a:b7) (p:List Int) (b:Int),0<=b->ev xs a p b= -1\/(b<=ev xs a p b/\ev xs a p b<b+fQ xs)
 | [],_,a,p,b,_=> .inl rfl
 |x::xs,i,a,p,b,m=>by
  have k:=i x a1;have hs:=rq k;have c:kK xs:=λy d=>i y (by simp[d]);have n:0<=fQ xs:=by
   have:=na (λx:cx=>gI x.bT) xs λy d=>(rq (c y d)).1;unfold fQ;omega
  have e:fQ (x::xs)=gI x.bT+fQ xs:=by simp[fQ]
  rw[e];simp only[ev];split
  ·split
   ·rename_i l;rcases aeb k l p with h|h
    ·rw[aW O];exact .inl rfl
    rw[aT O];exact .inr ⟨O,O⟩
   exact .inl rfl
  rcases N2 c a p (b+gI x.bT) O with h|h
  ·exact .inl h
  exact .inr ⟨O,O⟩
theorem mw(h:fK a d=true):1<=a.bD.length/\a.bD.length<=2/\ ∀x∈a.bD,cN x=true:=by
 simp only[fK,Bool.and_eq_true,decide_eq_true_eq,List.all_eq_true] at h;refine⟨h.2.2.1,h.2.2.2,λx b=>?_⟩
 have:=h.1 x b;simp only[eI,Bool.and_eq_true] at this;exact this.1
theorem j7{a:Type}{l:List a}{x:a}(h:l[i]? =some x):l.drop i=x::l.drop (i+1):=by obtain⟨b,c⟩:=bM.1 h;rw[kn b,c]
theorem Nv{a v:Int}(b:0<=a/\a<=36)(c:1<=d/\d<=6)(e:0<=v/\v<d):0<=a*d/\a*d<=216/\0<=a*d+v:=by have h:=mo b.1 (O:0<=d);have i:=qK b.2 c.2 O O;omega
theorem aaK(E:6600000<=n)(I:a.bD.length<=2)(X: ∀x∈a.bD,cN x=true){e:List Int}(Q:jM e=true)(M:a.bD.length=e.length){p:List Int}(f:hv k p)(b:Int)(N:0<=b/\b<=500000000):
  bc (λc ((R,A):Int×Int)=>bif decide (A<(a.bD.length:Int)) then(Option.bind (av a.bD A) λg=>Option.bind (nH n g p) λq=>Option.bind (av e A) λr=>Option.bind (eY n q 0 (wr (r-1))) λB=>bif !B then(some (-1)) else(c (wr ((wr (R*r))+q),wr (A+1)))) else(some (wr (b+R)))) n (0,0)
   =some (if gX a.bD e p 0<0 then-1 else b+gX a.bD e p 0):=by
 have C: ∀d∈e,1<=d/\d<=6:=by
  simp only[jM,Bool.and_eq_true,decide_eq_true_eq,List.all_eq_true] at Q;exact λd h=>Q.2 d h
 refine aa.eq ?_;refine aa.loop (λx:Int×Int=> ∃i:Nat,x.2=i/\i<=a.bD.length/\0<=x.1/\x.1<=36*i/\(i=0->x.1=0)/\(i=1->x.1<=5)/\gX a.bD e p 0=gX (a.bD.drop i) (e.drop i) p x.1) (λx=>a.bD.length-x.2.toNat) ?_ n _ ⟨0,rfl,O,a1,a1,λ_=>rfl,λh=>O,rfl⟩ bX;rintro D ⟨x,z⟩ ⟨i,W,P,F,G,m,s,l⟩ j;dsimp only at W F G m s l⊢;subst W;refine aR (λt=>?_) λu=>aa.some ?_
 ·have hs:=bg (O:i<a.bD.length);have o:=bg (O:i<e.length);have w:=C _ (bC o);have v:wr (e[i]-1)=e[i]-1:=bf O;rw[j7 hs,j7 o] at l;simp only[gX] at l;refine ag (a' hs) (ag (w8 O (X _ (bC hs)) f) (ag (a' o) (ag (iC _ _ _ _) ?_)));rw[v];by_cases H:0<=fJ a.bD[i] p/\fJ a.bD[i] p<e[i]
  ·rw[aW H] at l;rw[bp (O:0<=fJ a.bD[i] p/\fJ a.bD[i] p<=e[i]-1)];obtain⟨S,T,U⟩:=Nv (a:=x) O w H;refine bS ?_;rw[bf (n:=x*e[i]) O,bf (n:=x*e[i]+fJ a.bD[i] p) O,bf O];have y:i=0\/i=1:=O
   refine j _ ⟨i+1,Z,O,Z,?_,λh=>O,λh=>?_,l⟩ Z
   ·dsimp only;rcases y with rfl|rfl
    ·rw[m rfl];omega
    have:=s rfl
    have:=qK this w.2 O O;omega
   dsimp only
   have:i=0:=O
   subst this;rw[m rfl];omega
  rw[aT H] at l;rw[bs (show¬(0<=fJ a.bD[i] p/\fJ a.bD[i] p<=e[i]-1) by omega)];refine bY (aa.some ?_);rw[l];rfl
 have K:i=a.bD.length:=O
 have L:gX (a.bD.drop i) (e.drop i) p x=x:=by
  rw[K,od];unfold gX;rfl
 rw[L] at l;rw[l,aT O,bf O]
theorem aao(P:6600000<=n)(S:1<=a.bD.length)(T:a.bD.length<=2)(u: ∀x∈a.bD,cN x=true){b:List Int}(X:jM b=true){p:List Int}(v:hv k p)(c:Int)(U:0<=c/\c<=500000000):
  bc (λe ((f,s):Int×Int)=>bif decide (s<(a.bD.length:Int)) then(bif !decide ((a.bD.length:Int)=(b.length:Int)) then(some (-1)) else(Option.bind (av a.bD s) λE=>Option.bind (m0 n E p) λq=>aI (fun(D:Bool)=>bif D then(some (-1)) else(Option.bind (av b s) λF=>e (wr ((wr (f*F))+q),wr (s+1)))) λw=>bif decide (q<0) then(w true) else(Option.bind (av b s) λG=>w (decide (G<=q))))) else(some (wr (c+f)))) n (0,0)
   =some (if a.bD.length=b.length then(if gX a.bD b p 0<0 then-1 else c+gX a.bD b p 0) else-1):=by
 by_cases g:a.bD.length=b.length
 ·rw[aW g];rw[bp (show(a.bD.length:Int)=(b.length:Int) by omega)];have H: ∀d∈b,1<=d/\d<=6:=by
   simp only[jM,Bool.and_eq_true,decide_eq_true_eq,List.all_eq_true] at X;exact λd h=>X.2 d h
  refine aa.eq ?_;refine aa.loop (λx:Int×Int=> ∃i:Nat,x.2=i/\i<=a.bD.length/\0<=x.1/\x.1<=36*i/\(i=0->x.1=0)/\(i=1->x.1<=5)/\gX a.bD b p 0=gX (a.bD.drop i) (b.drop i) p x.1) (λx=>a.bD.length-x.2.toNat) ?_ n _ ⟨0,rfl,O,a1,a1,λ_=>rfl,λh=>O,rfl⟩ bX;rintro K ⟨x,z⟩ ⟨i,C,V,L,Q,r,y,l⟩ I;dsimp only at C L Q r y l⊢;subst C;refine aR (λM=>?_) λN=>aa.some ?_
  ·have hs:=bg (O:i<a.bD.length);have m:=bg (O:i<b.length);have A:=H _ (bC m);rw[j7 hs,j7 m] at l;simp only[gX] at l;refine bS (ag (a' hs) (ag (w6 O (u _ (bC hs)) v) (aa.aI (λz=>z= !decide (0<=fJ a.bD[i] p/\fJ a.bD[i] p<b[i])) (λj t=>aR (λh=>t _ ?_) λh=>ag (a' m) (t _ ?_)) λz C=>?_)))
   ·rw[bs O];rfl
   ·by_cases o:b[i]<=fJ a.bD[i] p
    ·rw[bp o,bs O];rfl
    rw[bs o,bp O];rfl
   subst C;by_cases o:0<=fJ a.bD[i] p/\fJ a.bD[i] p<b[i]
   ·rw[aW o] at l;rw[bp o];obtain⟨Y,g2,g3⟩:=Nv (a:=x) O A o;refine bS (ag (a' m) ?_);rw[bf (n:=x*b[i]) O,bf (n:=x*b[i]+fJ a.bD[i] p) O,bf O];have B:i=0\/i=1:=O
    refine I _ ⟨i+1,Z,O,Z,?_,λh=>O,λh=>?_,l⟩ Z
    ·dsimp only;rcases B with rfl|rfl
     ·rw[r rfl];omega
     have:=y rfl
     have:=qK this A.2 O O;omega
    dsimp only
    have:i=0:=O
    subst this;rw[r rfl];omega
   rw[aT o] at l;rw[bs o];refine bY (aa.some ?_);rw[l];rfl
  have R:i=a.bD.length:=O
  have W:gX (a.bD.drop i) (b.drop i) p x=x:=by
   rw[R,od];unfold gX;rfl
  rw[W] at l;rw[l,aT O,bf O]
 rw[aT g,bs (show¬(a.bD.length:Int)=(b.length:Int) by omega)];obtain⟨n,rfl⟩: ∃j,n=j+1:=⟨n-1,O⟩
 simp only[bc];rw[bp (show(0:Int)<(a.bD.length:Int) by omega)];rfl
theorem zo(w:6600000<=n)(L:p.aY.length<=4)(A:kK p.aY)(B:fK a d=true)(C:hv k q):rP n p a q=some (ev p.aY a q 0):=by
 obtain⟨a0,aH,a2⟩:=mw B;refine aa.eq ?_;unfold rP;refine aa.loop (λx:Int×Int=> ∃i:Nat,x.2=i/\i<=p.aY.length/\0<=x.1/\x.1<=36*i/\ev p.aY a q 0=ev (p.aY.drop i) a q x.1) (λx=>p.aY.length-x.2.toNat) ?_ n _ ⟨0,rfl,O,a1,a1,rfl⟩ bX;rintro l ⟨x,z⟩ ⟨i,y,Q,m,o,b⟩ D;dsimp only at y m o b⊢;subst y;refine aR (λF=>?_) λG=>aa.some ?_
 ·have r:=bg (O:i<p.aY.length);have e:=A _ (bC r);have kH:=rq e;rw[j7 r] at b;simp only[ev] at b;refine ag (a' r) (dZ (λh=>?_) λH=>?_)
  ·rw[aT h] at b;refine ag (Yu w e) ?_;rw[bf (n:=x+gI p.aY[i].bT) O,bf O];exact D _ ⟨i+1,Z,O,Z,Z,b⟩ Z
  rw[aW H] at b;refine dZ (λh=>aa.some ?_) λK=>?_
  ·rw[b,aT O]
  have c:a.bD.length=p.aY[i].bT.length:=O
  rw[aW c] at b;exact aa.of (aaK w aH a2 e c C x O) b.symm
 have s:i=p.aY.length:=O
 rw[b,s,od];rfl
theorem Me(s:6600000<=n)(H:r.length<=4)(y:kK r)(A:fK a d=true)(B:hv k q):v7 n r a q=some (ev r a q 0):=by
 obtain⟨a0,aH,a2⟩:=mw A;refine aa.eq ?_;unfold v7;refine aa.loop (λx:Int×Int=> ∃i:Nat,x.2=i/\i<=r.length/\0<=x.1/\x.1<=36*i/\ev r a q 0=ev (r.drop i) a q x.1) (λx=>r.length-x.2.toNat) ?_ n _ ⟨0,rfl,O,a1,a1,rfl⟩ bX;rintro e ⟨x,z⟩ ⟨i,w,K,h,l,b⟩ C;dsimp only at w h l b⊢;subst w;refine aR (λD=>?_) λF=>aa.some ?_
 ·have m:=bg (O:i<r.length);have c:=y _ (bC m);have kH:=rq c;rw[j7 m] at b;simp only[ev] at b;refine ag (a' m) (dZ (λo=>?_) λG=>?_)
  ·rw[aT o] at b;refine ag (D8 s c) ?_;rw[bf (n:=x+gI r[i].bT) O,bf O];exact C _ ⟨i+1,Z,O,Z,Z,b⟩ Z
  rw[aW G] at b;exact aa.of (aao s a0 aH a2 c B x O) b.symm
 have p:i=r.length:=O
 rw[b,p,od];rfl
def dN:Nat->Expr->List b7
 |0,_=>[]
 |L+1,e=>(if e.kind=3 then [e.read] else [])++e.bj.flatMap (dN L)
theorem ES{d:Int}: ∀{L:Nat} {e:Expr},dr L e d=true-> ∀a∈dN L e,fK a d=true
 |0,e,h,a,b=>by cases h
 |L+1,e,h,a,b=>by
  obtain⟨n,c,l⟩:=gM h;simp only[dN,List.mem_append,List.mem_flatMap] at b;rcases b with b|⟨k,m,b⟩
  ·split at b
   ·rename_i i;simp at b;subst b;unfold ei at c;rw[aT O,aW i] at c;simp only[Bool.and_eq_true] at c;exact c.2.2
   simp at b
  exact ES (l k m) a b
theorem ze: ∀(L:Nat) (e:Expr),((dN L e).length:Int)<=dp L e
 |0,e=>by simp[dN,dp]
 |L+1,e=>by
  have h: ∀(l:List Expr),((l.flatMap (dN L)).length:Int)<=(l.map (dp L)).sum:=by
   intro l;induction l with
   |nil=>simp
   |cons k l a=>
    have:=ze L k;simp only[List.flatMap_cons,List.length_append,List.map_cons,List.sum_cons];omega
  have:=h e.bj;simp only[dN,dp,List.length_append];split
  ·rw[kS];omega
  rw[List.length_nil];omega
theorem EA{d:Int}: ∀(L n:Nat) (e:Expr),6600000+L<=n->L<=5->dr L e d=true->qg (n+1) e=some (dN L e)
 |0,n,e,_,_,h=>by cases h
 |L+1,n,e,B,s,h=>by
  obtain⟨C,D,r⟩:=gM h;have w:=o4 e.kind;unfold qg;refine aa.eq (aR (λb=>aa.some ?_) λl=>?_)
  ·have:e.bj=[]:=by
    have F:fb e.kind=0:=by unfold fb;rw[aW (Or.inr (Or.inr b))]
    exact km O
   simp[dN,b,this]
  obtain⟨n,rfl⟩: ∃j,n=j+1:=⟨n-1,O⟩
  have m: ∀k∈e.bj,((dN L k).length:Int)<=100:=λk c=>by
   have G:=AZ (r k c);have H:(2:Int)^L<=40:=by
    match L,s with
    |0,_=>decide
    |1,_=>decide
    |2,_=>decide
    |3,_=>decide
    |4,_=>decide
   have:=ze L k;omega
  refine aa.loop (λx:List b7×Int=> ∃i:Nat,x.2=i/\i<=e.bj.length/\x.1=(e.bj.take i).flatMap (dN L)/\(x.1.length:Int)<=100*i) (λx=>e.bj.length-x.2.toNat) ?_ (n+1) _ ⟨0,rfl,O,a1,a1⟩ bX;rintro o ⟨x,k⟩ ⟨i,c,K,p,q⟩ y;dsimp only at c p q⊢;subst c;refine aR (λz=>?_) λA=>aa.some ?_
  ·have a:=bg (O:i<e.bj.length);have hm:=bC a;have aV:=m _ hm;refine ag (a' a) (ag (EA (d:=d) L n _ O O (r _ hm)) (ag (cW O) ?_));rw[bf O];refine y _ ⟨i+1,Z,O,?_,by dsimp only;rw[cP];omega⟩ Z;dsimp only;rw[dV,a,lE,p];simp
  have:i=e.bj.length:=O
  rw[p,this,cT];simp[dN,l]
theorem DY(n:Nat){a:az}(h:a.aU.length<=1100000):p2 n a=some a:=by
 unfold p2;refine aa.eq (aR (λb=>aa.some ?_) λb=>ag (mL _ h) (aa.some rfl));obtain⟨cs,c⟩:=a
 have:cs=[]:=km (by simpa using b);subst this;rfl
theorem t6(p:5500000<=n)(h:ju a.bD):p3 n a=some a:=by
 obtain⟨q,e⟩:=h;refine aa.eq ?_;unfold p3;refine aa.loop (λx:List az×Int=> ∃i:Nat,x.2=i/\i<=a.bD.length/\x.1=a.bD.take i) (λx=>a.bD.length-x.2.toNat) ?_ n _ ⟨0,rfl,O,a1⟩ bX;rintro c ⟨x,k⟩ ⟨i,d,r,b⟩ l;dsimp only at d b⊢;subst d;refine aR (λm=>?_) λo=>aa.some ?_
 ·have hs:=bg (O:i<a.bD.length);have s:x.length=i:=by rw[b,cq];omega
  refine ag (a' hs) (ag (DY n (e _ (bC hs))) (ag (cW bX) ?_));rw[bf O];refine l _ ⟨i+1,Z,O,?_⟩ Z;dsimp only;rw[dV,hs,b];rfl
 have:i=a.bD.length:=O
 rw[b,this,cT]
theorem N8{l:List az}(d:l.length<=2)(b: ∀a∈l,cN a=true):ju l:=⟨O,λa c=>by have:=(fx (b a c)).1;unfold hG;omega⟩
theorem Lr{d:Int}: ∀(L n:Nat) (e:Expr) (out:List b7),6600000+L<=n->L<=5->dr L e d=true->(out.length:Int)<=1100000+200*(6-(L:Int))->sw (n+1) out e=some (out++dN L e)
 |0,n,e,out,_,_,h,_=>by cases h
 |L+1,n,e,out,Q,A,h,R=>by
  obtain⟨W,X,s⟩:=gM h;have B:=o4 e.kind;unfold sw;refine aa.eq (aa.aI (λz=>z=out++(if e.kind=3 then [e.read] else [])) (λj w=>aR (λa=>?_) λm=>w _ (by rw[aT m];simp)) λz y=>?_)
  ·have C:=ES h e.read (by simp[dN,a]);obtain⟨_,D,F⟩:=mw C;exact ag (t6 O (N8 D F)) (ag (cW bX) (w _ (by rw[aW a])))
  subst y;obtain⟨n,rfl⟩: ∃j,n=j+1:=⟨n-1,O⟩
  by_cases a:e.kind=3
  ·have b:e.bj=[]:=by
    have y:fb e.kind=0:=by unfold fb;rw[aW (Or.inr (Or.inr a))]
    exact km O
   rw[b];refine aa.some ?_;simp[dN,a,b]
  have o: ∀k∈e.bj,((dN L k).length:Int)<=100:=λk l=>by
   have f:=AZ (s k l);have g:(2:Int)^L<=40:=by
    match L,A with
    |0,_=>decide
    |1,_=>decide
    |2,_=>decide
    |3,_=>decide
    |4,_=>decide
   have:=ze L k;omega
  rw[aT a,jU];refine aa.loop (λx:List b7×Int=> ∃i:Nat,x.2=i/\i<=e.bj.length/\x.1=out++(e.bj.take i).flatMap (dN L)/\(x.1.length:Int)<=out.length+100*i) (λx=>e.bj.length-x.2.toNat) ?_ (n+1) _ ⟨0,rfl,O,a1,a1⟩ bX;rintro p ⟨x,k⟩ ⟨i,l,t,q,r⟩ G;dsimp only at l q r⊢;subst l;refine aR (λH=>?_) λK=>aa.some ?_
  ·have c:=bg (O:i<e.bj.length);have hm:=bC c;have aV:=o _ hm;refine ag (a' c) (ag (Lr (d:=d) L n _ x O O (s _ hm) O) ?_);rw[bf O];refine G _ ⟨i+1,Z,O,?_,by dsimp only;rw[cP];omega⟩ Z;dsimp only;rw[dV,c,lE,q];simp
  have:i=e.bj.length:=O
  rw[q,this,cT];simp[dN,a]
theorem OH{o:List Loop}(b:Fit o): ∀(b2:List Loop) (k:Nat) (p q:List Int),o.drop k=b2->k<=o.length->hv k p->q∈e6 b2 p->hv o.length q
 | [],k,p,q,c,e,d,a=>by
  have:=zO c e;simp only[e6,List.mem_singleton] at a;subst a;subst this;exact d
 |l::b2,k,p,q,c,e,d,a=>by obtain⟨h,i,w⟩:=zs c;obtain⟨m,n⟩:=b.2 k l h;have r:=b.1;simp only[e6,List.mem_flatMap] at a;obtain⟨v,s,a⟩:=a;exact OH b b2 (k+1) _ q i O (Ax m n d O (acf.1 s)) a
theorem rH{o:List Loop}{z:List (List Int)}(h:iX o=some z):Fit o/\z.length<=120/\(∀q∈z,hv o.length q)/\z=e6 o []/\fh o []<=1200:=by
 unfold iX at h;split at h
 ·rename_i a;cases h;have b:=A5 a.1;exact⟨b,a.2.2,λq c=>OH b o 0 [] q rfl O yb c,rfl,a.2.1⟩
 cases h
def d9(b:List cx)(s:Stmt)(q:List Int):Bool:=decide (0<=ev b s.write q 0)&&(dN 5 s.value).all λa=>decide (0<=ev b a q 0)
theorem kd(h:ep s d=true):fK s.write d=true/\dr 5 s.value d=true/\(∀a∈dN 5 s.value,fK a d=true)/\(dN 5 s.value).length<=12:=by
 simp only[ep,Bool.and_eq_true,decide_eq_true_eq] at h;obtain⟨_,c,b,e⟩:=h
 have:=ze 5 s.value;exact⟨c,b,ES b,O⟩
theorem Wj(C:7700000<=n)(c:p.aY.length<=4)(e:kK p.aY)(o:ep s d=true)(i:hv k q):Ca n p s q=some (d9 p.aY s q):=by
 obtain⟨r,w,x,D⟩:=kd o;obtain⟨n,rfl⟩: ∃j,n=j+1:=⟨n-1,O⟩
 refine aa.eq ?_;unfold Ca;generalize b:d9 p.aY s q=T;unfold d9 at b;refine aa.aI (λz=>z=T) (λj m=>ag (zo O c e r i) (aR (λh=>?_) λh=>m _ ?_)) λz y=>aa.some y
 ·have bB:=Tm (n:=n+1) (f:=λA=>xn (n+1) A p q) (p:=λa=>decide (ev p.aY a q 0<0)) (l:=dN 5 s.value)
   (λa B=>by unfold xn;rw[zo O c e (x a B) i];rfl) O O
  refine ag (EA (d:=d) 5 n s.value O O w) (ag bB (m _ ?_));rw[<-b,bp h,eW,sM];congr 1;apply congrArg λf=>List.any (dN 5 s.value) f;funext a;rw[B3]
 rw[<-b,bs h];rfl
theorem Kw(v:7700000<=n)(C:r.length<=4)(D:kK r)(H:ep s d=true)(F:hv k q):
  vg n r s q=some (if d9 r s q=true then((dN 5 s.value).map λa=>ev r a q 0,ev r s.write q 0,true) else([],0,false)):=by
 obtain⟨K,L,Q,E⟩:=kd H;obtain⟨n,rfl⟩: ∃j,n=j+1:=⟨n-1,O⟩
 refine aa.eq ?_;unfold vg;refine ag (Lr (d:=d) 5 n s.value [] O O L a1) ?_;rw[qJ];generalize W:dN 5 s.value=R at*;have c:d9 r s q=(decide (0<=ev r s.write q 0)&&R.all λa=>decide (0<=ev r a q 0)):=by unfold d9;rw[W]
 refine aa.loop (λx:List Int×Int=> ∃i:Nat,x.2=i/\i<=R.length/\x.1=(R.take i).map (λa=>ev r a q 0)/\ ∀(t:Nat) a,t<i->R[t]? =some a->0<=ev r a q 0) (λx=>R.length-x.2.toNat) ?_ (n+1) _ ⟨0,rfl,O,a1,λt a h=>O⟩ Z;rintro p ⟨x,z⟩ ⟨i,G,I,o,w⟩ X;dsimp only at G o w⊢;subst G;refine aR (λf=>?_) λg=>?_
 ·have bE:=bg (O:i<R.length);have hm:=bC bE;refine ag (a' bE) (ag (Me O C D (Q _ hm) F) (aR (λe=>aa.some ?_) λl=>?_))
  ·rw[aT];rw[c];intro h;rw[oc] at h
   have:=fC.1 h.2 _ hm;rw[decide_eq_true_eq] at this;omega
  have u:x.length<=12:=by rw[o,dj,cq];omega
  refine ag (cW bX) ?_;rw[bf O];refine X _ ⟨i+1,Z,O,?_,λt a y b=>?_⟩ Z
  ·dsimp only;rw[dV,bE,gJ,o];rfl
  by_cases A:t=i
  ·subst A;rw[bE] at b;cases b;omega
  exact w t a O b
 have B:i=R.length:=O
 have m:R.all (λa=>decide (0<=ev r a q 0))=true:=fC.2 (λa hm=>by
  obtain⟨t,y⟩:=kT hm
  have:=(bM.1 y).1;exact bp (w t a O y))
 rw[c,m,Bool.and_true];refine ag (Me O C D K F) (aR (λe=>aa.some ?_) λl=>aa.some ?_)
 ·rw[aT (by rw[decide_eq_true_eq];omega)]
 rw[aW (by rw[decide_eq_true_eq];omega),o,B,cT]
def jN(q:List Int):Bool:=decide (q.length<=4)&&q.all λx=>decide (-9999<=x/\x<=9999)
theorem Vp(b:5500000<=n)(h:q.length<=1100000):zn n q=some (jN q):=by
 unfold zn jN;have bB:=CQ (n:=n) (f:=λa=>yc n a) (p:=λx=> !decide (-9999<=x/\x<=9999)) (l:=q) (λx _=>by unfold yc;rw[iC];rfl) O O;simp only[aI,Option.bind];rw[bB];have e:(q.any λx=> !decide (-9999<=x/\x<=9999))= !(q.all λx=>decide (-9999<=x/\x<=9999)):=by rw[sM];simp
 rw[e,show decide ((q.length:Int)<=4)=decide (q.length<=4) from decide_eq_decide.2 O];cases decide (q.length<=4)<;>simp
theorem UX(r:5500000<=n)(h:q.length<=1100000):zb n q=some (jN q):=by
 refine aa.eq ?_;unfold zb;refine o' (l:=q) (p:=λ_ x=>decide (-9999<=x/\x<=9999)) O O (λa i x d k m=>?_) (λa b=>?_) (λ⟨i,x,d,e⟩=>?_)
 ·have aD:=(bM.1 d).1;rw[bp (show(i:Int)<(q.length:Int) by omega)];refine bY (ag (a' d) (ag (yh n x 9999 O) ?_));cases e:decide (-9999<=x/\x<=9999) with
  |true=>show aa (a _) _;rw[bf O];exact k e
  |false=>exact aa.some (m e)
 ·rw[bs (show¬(q.length:Int)<(q.length:Int) by omega)];refine aa.some ?_;unfold jN;rw[fC.2 (λc o=>by obtain⟨i,aD⟩:=kT o;exact b i c aD),Bool.and_true];exact decide_eq_decide.2 O
 unfold jN;rw[iR.2 ⟨x,bC d,by rw[e];simp⟩,iS]
theorem Ns{a:Type}(p q:a->Bool): ∀l:List a,(l.all p&&l.all q)=l.all (λx=>p x&&q x)
 | []=>rfl
 |x::l=>by simp only[List.all_cons,<-Ns p q l];cases p x<;>cases q x<;>cases l.all p<;>cases l.all q<;>rfl
def nw(a:Part):Bool:=decide (1<=a.body.length/\a.body.length<=4)&&a.body.all λs=>ep s (a.nest.length:Int)
def iH(a:Part):List (List Int):=(iX a.nest).getD []
def eh(b:List cx)(a:Part):Bool:=(iX a.nest).isSome&&(nw a&&a.body.all λs=>(iH a).all λq=>d9 b s q&&jN q)
def G4(x:Part):Prop:=pI x.nest/\x.body.length<=1100000/\ ∀s∈x.body,zE s
def g'(p:Prog):Prop:=Et p.aY/\p.parts.length<=1100000/\ ∀x∈p.parts,G4 x
theorem fX(h:eh r x=true):iX x.nest=some (iH x)/\(1<=x.body.length/\x.body.length<=4)/\(∀s∈x.body,ep s (x.nest.length:Int)=true)/\ ∀s∈x.body,∀q∈iH x,d9 r s q=true/\jN q=true:=by
 simp only[eh,nw,Bool.and_eq_true,decide_eq_true_eq,List.all_eq_true] at h;refine⟨?_,h.2.1.1,h.2.1.2,h.2.2⟩;unfold iH;cases a:iX x.nest with
 |none=>rw[a] at h;simp at h
 |some b=>rfl
theorem G2{list:List cx}(h:jg list=true):list.length<=4/\kK list:=by
 simp only[jg,Bool.and_eq_true,decide_eq_true_eq] at h;refine⟨h.2,λx a=>?_⟩;obtain⟨i,b⟩:=kT a
 have:=LP h.1 b;simp only[nE,Bool.and_eq_true] at this;exact this.2.2
theorem Vz(cu:7700000<=n){a:List cx}(N:a.length<=4)(P:kK a)(S:G4 x):
  Af n a x=some (if eh a x=true then(((iH x).length:Int)*(x.body.length:Int),true) else(0,false)):=by
 obtain⟨U,h2,V⟩:=S;refine aa.eq ?_;unfold Af;generalize v:(if eh a x=true then(((iH x).length:Int)*(x.body.length:Int),true) else((0:Int),false))=T;refine ag (Th O U) ?_;have c:eh a x=false->((0:Int),false)=T:=λh=>by rw[<-v,h];rfl
 refine aa.aI (λz=>z= !((iX x.nest).isSome&&decide (1<=x.body.length/\x.body.length<=4))) (λj l=>?_) λz Q=>?_
 ·cases m:iX x.nest with
  |none=>exact bY (l _ (by rw[m];rfl))
  |some b=>
   refine bS (aR (λh=>l _ ?_) λh=>l _ ?_)
   ·rw[m,bs O];rfl
   rw[m];by_cases h4:x.body.length<=4
   ·rw[bs (show¬(4:Int)<(x.body.length:Int) by omega),bp O];rfl
   rw[bp (show(4:Int)<(x.body.length:Int) by omega),bs O];rfl
 subst Q;cases m:iX x.nest with
 |none=>exact aa.some (c (by unfold eh;rw[m];rfl))
 |some b=>
  obtain⟨hM,Y,R,afY,afZ⟩:=rH m;have A:iH x=b:=by unfold iH;rw[m];rfl
  by_cases K:1<=x.body.length/\x.body.length<=4
  ·rw[bp K];refine bS ?_;have o:eh a x=x.body.all (λs=>ep s (x.nest.length:Int)&&b.all λq=>d9 a s q&&jN q):=by
    unfold eh nw;rw[m,A,bp K,Option.isSome_some,eW,eW];exact Ns _ _ _
   refine aa.loop (λy:Int=> ∃i:Nat,y=i/\i<=x.body.length/\ ∀(t:Nat) s,t<i->x.body[t]? =some s->(ep s (x.nest.length:Int)&&b.all λq=>d9 a s q&&jN q)=true) (λy=>x.body.length-y.toNat) ?_ n _ ⟨0,rfl,O,λt s h=>O⟩ bX;rintro W y ⟨i,rfl,aD,E⟩ bO;refine aR (λhlt=>?_) λiI=>aa.some ?_
   ·have bE:=bg (O:i<x.body.length);have hm:=bC bE;refine ag (a' bE) (ag (J1 O (V _ hm) _) ?_);cases e:ep x.body[i] (x.nest.length:Int) with
    |false=>
     refine bY (aa.some (c ?_));rw[o];exact iR.2 ⟨_,hm,by rw[e];simp⟩
    |true=>
     refine bS ?_;show aa (bc (λd (kq:Int)=>bif decide (kq<(b.length:Int)) then _ else _) n 0) _;refine aa.loop (λy:Int=> ∃k:Nat,y=k/\k<=b.length/\ ∀(t:Nat) q,t<k->b[t]? =some q->(d9 a x.body[i] q&&jN q)=true) (λy=>b.length-y.toNat) ?_ n _ ⟨0,rfl,O,λt s h=>O⟩ bX;rintro d y ⟨k,rfl,hk,B⟩ X;refine aR (λI=>?_) λM=>?_
     ·have p:=bg (O:k<b.length);have C:=bC p;have D:=R _ C;have f:b[k].length<=1100000:=by have:=D.1;have:=D.2.1;omega
      refine ag (a' p) (ag (Kw O N P e D) (aa.aI (λz=>z= !(d9 a x.body[i] b[k]&&jN b[k])) (λj l=>?_) λz Q=>?_))
      ·cases F:d9 a x.body[i] b[k] with
       |false=>
        rw[F] at l;exact bY (l _ rfl)
       |true=>
        rw[F] at l;exact bS (ag (UX O f) (l _ rfl))
      subst Q;cases F:(d9 a x.body[i] b[k]&&jN b[k]) with
      |false=>
       refine aa.some (c ?_);rw[o];refine iR.2 ⟨_,hm,?_⟩;rw[e,eW];rw[iR.2 ⟨_,C,by rw[F];simp⟩];simp
      |true=>
       show aa (d _) _;rw[bf O];refine X _ ⟨k+1,O,O,λt q L r=>?_⟩ O;by_cases g:t=k
       ·subst g;rw[p] at r;cases r;exact F
       exact B t q O r
     rw[bf O];refine bO _ ⟨i+1,O,O,λt s L w=>?_⟩ O;by_cases u:t=i
     ·subst u;rw[bE] at w;cases w;rw[e,eW];refine fC.2 λq D=>?_;obtain⟨lB,G⟩:=kT D
      have:=(bM.1 G).1;exact B lB q O G
     exact E t s O w
   have H:eh a x=true:=by
    rw[o];refine fC.2 λs hs=>?_;obtain⟨t,L⟩:=kT hs
    have:=(bM.1 L).1;exact E t s O L
   rw[<-v,H,aW rfl,A];show(wr ((b.length:Int)*(x.body.length:Int)),true)=_;have j':(0:Int)<=(b.length:Int)*(x.body.length:Int):=mo O O;have BB:(b.length:Int)*(x.body.length:Int)<=120*4:=qK O O O O;rw[bf O]
  rw[bs K];refine aa.some (c ?_);unfold eh nw;rw[bs K];simp
def fo(x:Part):Int:=((iH x).length:Int)*(x.body.length:Int)
def nO(i:Nat)(x:Part):List cb:=(iH x).flatMap λq=>(List.range x.body.length).map fun(k:Nat)=>(⟨(i:Int),(k:Int),q⟩:cb)
def bk(a:List Part):List cb:=a.zipIdx.flatMap λy=>nO y.2 y.1
def iO(p:Prog):Bool:=jg p.aY&&(decide (p.parts.length<=4)&&p.parts.all (eh p.aY))
def bU(p:Prog):Bool:=iO p&&decide ((p.parts.map fo).sum<=120)
theorem agB(l:List Part)(x:Part):bk (l++[x])=bk l++nO l.length x:=by unfold bk;rw[List.zipIdx_append,lE];simp
theorem IQ{l:List Part}(h:l[i]? =some x):bk (l.take (i+1))=bk (l.take i)++nO i x:=by have aD:=(bM.1 h).1;rw[dV,h];show bk (l.take i++[x])=_;rw[agB,cq,pe (Nat.le_of_lt aD)]
theorem z'{a R:Type}(f:a->List R)(m:Nat)(h: ∀x,(f x).length=m): ∀l:List a,(l.flatMap f).length=l.length*m
 | []=>a1
 |x::l=>by rw[yE,cP,h,z' f m h l,qH,dC];omega
theorem IP(i:Nat)(x:Part):((nO i x).length:Int)=fo x:=by unfold nO fo;rw[z' _ x.body.length λq=>a1];exact Int.natCast_mul _ _
theorem M5{l:List Part}(h:l[i]? =some x):((l.take (i+1)).map fo).sum=((l.take i).map fo).sum+fo x:=by rw[dV,h];simp
theorem QK: ∀(l:List Part) (i:Nat),i<=l.length->((bk (l.take i)).length:Int)=((l.take i).map fo).sum
 |l,0,_=>by simp[bk]
 |l,i+1,h=>by
  have bE:=bg (O:i<l.length);rw[IQ bE,cP,M5 bE]
  have:=QK l i O
  have:=IP i l[i];omega
theorem BP(l:List Part):((bk l).length:Int)=(l.map fo).sum:=by
 have:=QK l l.length (cD _)
 rwa [cT] at this
theorem yW(h:eh r x=true):0<=fo x/\fo x<=480:=by
 obtain⟨a,b,_⟩:=fX h;obtain⟨_,c,_⟩:=rH a;unfold fo;refine⟨mo O O,?_⟩
 have:=qK (show((iH x).length:Int)<=120 by omega) (show(x.body.length:Int)<=4 by omega) O O;omega
theorem jw(g:7700000<=n)(F:g' p):jx n p=some (bU p):=by
 obtain⟨G,u,H⟩:=F;refine aa.eq ?_;unfold jx;generalize o:bU p=T;unfold bU iO at o;refine aa.aI (λz=>z= !(jg p.aY&&decide (p.parts.length<=4))) (λj B=>ag (TU O G) ?_) λz l=>?_
 ·cases d:jg p.aY with
  |false=>exact bY (B _ (by rw[d];rfl))
  |true=>
   refine bS (B _ ?_);rw[d];by_cases C:p.parts.length<=4
   ·rw[bs (show¬(4:Int)<(p.parts.length:Int) by omega),bp C];rfl
   rw[bp (show(4:Int)<(p.parts.length:Int) by omega),bs C];rfl
 subst l;cases m:(jg p.aY&&decide (p.parts.length<=4)) with
 |false=>
  refine aa.some ?_;rw[<-o,<-lG,m];rfl
 |true=>
  have e:T=(p.parts.all (eh p.aY)&&decide ((p.parts.map fo).sum<=120)):=by rw[<-o,<-lG,m];rfl
  rw[oc,decide_eq_true_eq] at m;obtain⟨K,L⟩:=G2 m.1;refine bS ?_;refine aa.loop (λx:Int×Int=> ∃i:Nat,x.2=i/\i<=p.parts.length/\x.1=((p.parts.take i).map fo).sum/\0<=x.1/\x.1<=480*i/\ ∀(t:Nat) y,t<i->p.parts[t]? =some y->eh p.aY y=true) (λx=>p.parts.length-x.2.toNat) ?_ n _ ⟨0,rfl,O,a1,a1,a1,λt y h=>O⟩ Z;rintro a ⟨x,z⟩ ⟨i,l,v,D,q,r,d⟩ Q;dsimp only at l D q r d⊢;subst l;refine aR (λR=>?_) λW=>aa.some ?_
  ·have bE:=bg (O:i<p.parts.length);have hm:=bC bE;refine ag (a' bE) (ag (Vz O K L (H _ hm)) ?_);cases b:eh p.aY p.parts[i] with
   |false=>
    rw[aT a1];refine aa.some ?_;rw[e,iR.2 ⟨_,hm,by rw[b];simp⟩];rfl
   |true=>
    rw[aW rfl];have X:=yW b;show aa (a (wr (x+fo p.parts[i]),wr ((i:Int)+1))) _;rw[bf (n:=x+fo p.parts[i]) O,bf O];refine Q _ ⟨i+1,Z,O,by dsimp only;rw[M5 bE];omega,Z,Z,λt y s c=>?_⟩ Z;by_cases w:t=i
    ·subst w;rw[bE] at c;cases c;exact b
    exact d t y O c
  have A:i=p.parts.length:=O
  have k:p.parts.all (eh p.aY)=true:=fC.2 (λy f=>by
   obtain⟨t,s⟩:=kT f
   have:=(bM.1 s).1;exact d t y O s)
  rw[e,k,eW,D,A,cT]
theorem J3{a:Type}(f:Nat->a)(k:Nat):(List.range (k+1)).map f=(List.range k).map f++[f k]:=by rw[nj,gJ];rfl
theorem J4(cu:7700000<=n)(hp:g' p):ud n p=some (if iO p=true then(bk p.parts,decide ((bk p.parts).length<=120)) else([],false)):=by
 obtain⟨h1,h2,h3⟩:=hp;refine aa.eq ?_;unfold ud;generalize j9:(if iO p=true then(bk p.parts,decide ((bk p.parts).length<=120)) else([],false))=T;have a:iO p=false->(([]:List cb),false)=T:=λh=>by rw[<-j9,h];rfl
 refine aa.aI (λz=>z= !(jg p.aY&&decide (p.parts.length<=4))) (λj E=>ag (Ua O h1) ?_) λz c=>?_
 ·cases I:jg p.aY with
  |false=>exact bY (E _ (by rw[I];rfl))
  |true=>
   refine bS (E _ ?_);rw[I];by_cases h4:p.parts.length<=4
   ·rw[bs (show¬(4:Int)<(p.parts.length:Int) by omega),bp h4];rfl
   rw[bp (show(4:Int)<(p.parts.length:Int) by omega),bs h4];rfl
 subst c;cases aV:(jg p.aY&&decide (p.parts.length<=4)) with
 |false=>exact aa.some (a (by unfold iO;rw[<-lG,aV];rfl))
 |true=>
  have d:iO p=p.parts.all (eh p.aY):=by unfold iO;rw[<-lG,aV];rfl
  rw[oc,decide_eq_true_eq] at aV;obtain⟨b9,cn⟩:=G2 aV.1;refine bS ?_;refine aa.loop (λx:List cb×Int=> ∃i:Nat,x.2=i/\i<=p.parts.length/\x.1=bk (p.parts.take i)/\x.1.length<=480*i/\ ∀(t:Nat) y,t<i->p.parts[t]? =some y->eh p.aY y=true) (λx=>p.parts.length-x.2.toNat) ?_ n _ ⟨0,rfl,O,by simp[bk],a1,λt y h=>O⟩ Z;rintro again ⟨x,z⟩ ⟨i,c,aD,hx,agl,I⟩ bO;dsimp only at c hx agl I⊢;subst c;refine aR (λhlt=>?_) λiI=>aa.some ?_
  ·have bE:=bg (O:i<p.parts.length);have hm:=bC bE;obtain⟨s1,s2,ajc⟩:=h3 _ hm;generalize xq:p.parts[i]=P at*;have r:eh p.aY P=false->iO p=false:=λh=>by rw[d];exact iR.2 ⟨_,hm,by rw[h];simp⟩
   refine ag (a' bE) (ag (Tk O s1) (aa.aI (λz=>z= !((iX P.nest).isSome&&nw P)) (λj E=>?_) λz c=>?_))
   ·cases A:iX P.nest with
    |none=>exact bY (E _ (by rw[A];rfl))
    |some b=>
     refine bS ?_;have hw:eY n (P.body.length:Int) 1 4=some (decide (1<=P.body.length/\P.body.length<=4)):=by
      rw[iC];congr 1;exact decide_eq_decide.2 O
     refine ag hw ?_;have bB:=Ud (n:=n) (f:=λnU=>xi n nU P) (p:=λs=> !ep s (P.nest.length:Int)) (l:=P.body) (λs M=>by unfold xi;rw[TI O (ajc s M)];rfl) O O;have e:(P.body.any λs=> !ep s (P.nest.length:Int))= !(P.body.all λs=>ep s (P.nest.length:Int)):=by rw[sM];simp
     cases N:decide (1<=P.body.length/\P.body.length<=4) with
     |false=>exact bY (E _ (by unfold nw;rw[A,N];rfl))
     |true=>exact bS (ag bB (E _ (by unfold nw;rw[A,N,e];rfl)))
   subst c;cases A:iX P.nest with
   |none=>exact aa.some (a (r (by unfold eh;rw[A];rfl)))
   |some b=>
    obtain⟨hM,ais,afX,afY,afZ⟩:=rH A;have S:iH P=b:=by unfold iH;rw[A];rfl
    cases F:nw P with
    |false=>exact aa.some (a (r (by unfold eh;rw[F];simp)))
    |true=>
     have B:=F;simp only[nw,Bool.and_eq_true,decide_eq_true_eq,List.all_eq_true] at B;obtain⟨⟨j',BB⟩,xu⟩:=B;have G:eh p.aY P=P.body.all (λs=>b.all λq=>d9 p.aY s q&&jN q):=by
      unfold eh;rw[A,F,S];rfl
     let row:List Int->List cb:=λq=>(List.range P.body.length).map fun(k:Nat)=>(⟨(i:Int),(k:Int),q⟩:cb)
     have hrl: ∀q,(row q).length=P.body.length:=λq=>by simp[row]
     have o:nO i P=b.flatMap row:=by unfold nO;rw[S]
     refine bS ?_;rw[show(rE (some b)).1=b from rfl];refine aa.loop (λy:List cb×Int=> ∃k:Nat,y.2=k/\k<=b.length/\y.1=x++(b.take k).flatMap row/\ ∀(t:Nat) q,t<k->b[t]? =some q->jN q=true/\ ∀s∈P.body,d9 p.aY s q=true) (λy=>b.length-y.2.toNat) ?_ n _ ⟨0,rfl,O,a1,λt q h=>O⟩ Z;rintro U ⟨y,z⟩ ⟨k,c,hk,H,K⟩ V;dsimp only at c H K⊢;subst c;refine aR (λhlt2=>?_) λaii=>?_
     ·have w:=bg (O:k<b.length);have L:=bC w;generalize H8:b[k]=Q at*;have Y:=afX _ L;have af1:Q.length<=4:=by have:=Y.1;have:=Y.2.1;omega
      refine ag (a' w) (ag (Vp O O) ?_);have agn:y.length<=480*4+480:=by
       rw[H,cP,z' row _ hrl,cq]
       have:min k b.length*P.body.length<=120*4:=nh O BB;omega
      cases Qy:jN Q with
      |false=>
       refine bY (aa.some (a (r ?_)));rw[G];obtain⟨Jr,af7⟩: ∃Jr,Jr∈P.body:=List.exists_mem_of_length_pos O;refine iR.2 ⟨Jr,af7,?_⟩;rw[iR.2 ⟨Q,L,by rw[Qy];simp⟩];simp
      |true=>
       refine bS ?_;refine aa.loop (λu:List cb×Int=> ∃m:Nat,u.2=m/\m<=P.body.length/\u.1=y++(List.range m).map (fun(k:Nat)=>(⟨(i:Int),(k:Int),Q⟩:cb))/\ ∀(t:Nat) s,t<m->P.body[t]? =some s->d9 p.aY s Q=true) (λu=>P.body.length-u.2.toNat) ?_ n _ ⟨0,rfl,O,a1,λt s h=>O⟩ Z;rintro ah1 ⟨u,z⟩ ⟨m,c,lZ,hu,R⟩ af3;dsimp only at c hu R⊢;subst c;refine aR (λaio=>?_) λaij=>?_
       ·have W:=bg (O:m<P.body.length);have C:=bC W;refine ag (a' W) (ag (Wj O b9 cn (xu _ C) Y) ?_);cases Qf:d9 p.aY P.body[m] Q with
        |false=>
         refine bY (aa.some (a (r ?_)));rw[G];refine iR.2 ⟨_,C,?_⟩;rw[iR.2 ⟨Q,L,by rw[Qf];simp⟩];simp
        |true=>
         have hcl:jh Q=some Q:=by unfold jh;rw[aW O]
         have oT:u.length<=480*4+480+4:=by rw[hu];simp;omega
         refine bS (ag hcl (ag (cW bX) ?_));rw[bf O];refine af3 _ ⟨m+1,Z,O,?_,λt s D X=>?_⟩ Z
         ·dsimp only;rw[hu,J3,fs]
         by_cases age:t=m
         ·subst age;rw[W] at X;cases X;exact Qf
         exact R t s O X
       have afJ:m=P.body.length:=O
       rw[bf O];refine V _ ⟨k+1,Z,O,?_,λt q D g=>?_⟩ Z
       ·dsimp only;rw[dV,w,lE,<-fs,<-H,hu,afJ];simp[row]
       by_cases agd:t=k
       ·subst agd;rw[w] at g;cases g;refine⟨Qy,λs M=>?_⟩;obtain⟨lB,QC⟩:=kT M
        have:=(bM.1 QC).1;exact R lB s O QC
       exact K t q O g
     have Ql:k=b.length:=O
     have Qx:eh p.aY P=true:=by
      rw[G];refine fC.2 λs M=>fC.2 λq Y=>?_;obtain⟨t,D⟩:=kT Y
      have:=(bM.1 D).1;obtain⟨g1,g2⟩:=K t q O D;rw[g1,g2 s M];rfl
     have BC:=yW Qx;have BH:=IP i P;rw[bf O];refine bO _ ⟨i+1,Z,O,?_,?_,λt y D v=>?_⟩ Z
     ·dsimp only;rw[IQ bE,o,H,Ql,cT,hx]
     ·dsimp only;rw[H,Ql,cT,cP,<-o];omega
     by_cases agc:t=i
     ·subst agc;rw[bE] at v;cases v;exact Qx
     exact I t y O v
  have aft:i=p.parts.length:=O
  have hall:iO p=true:=by
   rw[d];exact fC.2 (λy H=>by
    obtain⟨t,D⟩:=kT H
    have:=(bM.1 D).1;exact I t y O D)
  rw[<-j9,aW hall,hx,aft,cT];congr 1;exact decide_eq_decide.2 O
theorem rK(a:7700000<=n)(b:g' p):p4 n p=some (bU p):=by
 unfold p4;rw[J4 a b];unfold bU;cases h:iO p with
 |false=>rfl
 |true=>
  rw[aW rfl];show some (decide _)=_;rw[eW];congr 1
  have:=BP p.parts;exact decide_eq_decide.2 O
theorem eg(h:bU p=true):p.aY.length<=4/\kK p.aY/\p.parts.length<=4/\(∀x∈p.parts,eh p.aY x=true)/\(bk p.parts).length<=120:=by
 simp only[bU,iO,Bool.and_eq_true,decide_eq_true_eq,List.all_eq_true] at h;obtain⟨⟨c,d,e⟩,i⟩:=h;obtain⟨a,b⟩:=G2 c
 have:=BP p.parts;exact⟨a,b,d,e,O⟩
theorem uD(cu:7700000<=n)(U:bU p=true):oI n p=some (bk p.parts):=by
 obtain⟨b9,cn,h4,C,V⟩:=eg U;refine aa.eq ?_;unfold oI;refine aa.loop (λx:List cb×Int=> ∃i:Nat,x.2=i/\i<=p.parts.length/\x.1=bk (p.parts.take i)/\x.1.length<=480*i) (λx=>p.parts.length-x.2.toNat) ?_ n _ ⟨0,rfl,O,by simp[bk],a1⟩ Z;rintro D ⟨x,z⟩ ⟨i,b,aD,F,G⟩ Y;dsimp only at b F G⊢;subst b;refine aR (λhlt=>?_) λiI=>aa.some ?_
 ·have bE:=bg (O:i<p.parts.length);have hm:=bC bE;have d:=C _ hm;generalize xq:p.parts[i]=P at*;obtain⟨lz,q2,qu,QZ⟩:=fX d;obtain⟨t,H,K,e,L⟩:=rH lz;generalize R:iH P=v at*;have BC:=yW d;have E:=IP i P;let row:List Int->List cb:=λq=>(List.range P.body.length).map fun(k:Nat)=>(⟨(i:Int),(k:Int),q⟩:cb)
  have W: ∀q,(row q).length=P.body.length:=λq=>by simp[row]
  have a:nO i P=v.flatMap row:=by unfold nO;rw[R]
  refine ag (a' bE) (gA (D7 t P.nest n 0 [] [] (by have:=t.1;omega) rfl O yb L a1) λr ⟨ss,u'⟩=>?_);have X:r=v:=by rw[ss (by rw[<-e];simpa using H),e];rfl
  subst X;refine aa.loop (λy:List cb×Int=> ∃k:Nat,y.2=k/\k<=r.length/\y.1=x++(r.take k).flatMap row) (λy=>r.length-y.2.toNat) ?_ n _ ⟨0,rfl,O,a1⟩ Z;rintro h ⟨y,z⟩ ⟨k,b,hk,l⟩ o;dsimp only at b l⊢;subst b;refine aR (λI=>?_) λM=>?_
  ·have c:=bg (O:k<r.length);have f:=bC c;generalize H8:r[k]=Q at*;have N:=K _ f;have af1:Q.length<=4:=by have:=N.1;have:=N.2.1;omega
   have agn:y.length<=480*4+480:=by
    rw[l,cP,z' row _ W,cq]
    have:min k r.length*P.body.length<=120*4:=nh O q2.2;omega
   refine aa.loop (λu:List cb×Int=> ∃m:Nat,u.2=m/\m<=P.body.length/\u.1=y++(List.range m).map (fun(k:Nat)=>(⟨(i:Int),(k:Int),Q⟩:cb))) (λu=>P.body.length-u.2.toNat) ?_ n _ ⟨0,rfl,O,a1⟩ Z;rintro s ⟨u,z⟩ ⟨m,b,lZ,B⟩ w;dsimp only at b B⊢;subst b;refine aR (λS=>?_) λT=>?_
   ·have oT:u.length<=480*4+480+4:=by rw[B];simp;omega
    refine ag (a' c) (ag (mL _ O) (ag (cW bX) ?_));rw[bf O];refine w _ ⟨m+1,Z,O,?_⟩ Z;dsimp only;rw[B,J3,fs]
   have g:m=P.body.length:=O
   rw[bf O];refine o _ ⟨k+1,Z,O,?_⟩ Z;dsimp only;rw[dV,c,lE,<-fs,<-l,B,g];simp[row]
  have A:k=r.length:=O
  rw[bf O];refine Y _ ⟨i+1,Z,O,?_,?_⟩ Z
  ·dsimp only;rw[IQ bE,a,l,A,cT,F]
  dsimp only;rw[l,A,cT,cP,<-a];omega
 have j:i=p.parts.length:=O
 rw[F,j,cT]
theorem WL{l:List cx}{x:cx}(h:l[i]? =some x):fQ (l.take (i+1))=fQ (l.take i)+gI x.bT:=by unfold fQ;rw[List.take_add_one,h];simp
theorem Lp(r:7700000<=n)(s:p.aY.length<=4)(l:kK p.aY):y' n p=some (fQ p.aY):=by
 refine aa.eq ?_;unfold y';refine aa.loop (λx:Int×Int=> ∃i:Nat,x.2=i/\i<=p.aY.length/\x.1=fQ (p.aY.take i)/\0<=x.1/\x.1<=36*i) (λx=>p.aY.length-x.2.toNat) ?_ n _ ⟨0,rfl,O,by simp[fQ],a1,a1⟩ Z;rintro b ⟨x,z⟩ ⟨i,h,w,k,c,d⟩ m;dsimp only at h k c d⊢;subst h;refine aR (λo=>?_) λq=>aa.some ?_
 ·have bE:=bg (O:i<p.aY.length);have a:=l _ (bC bE);have kH:=rq a;refine ag (a' bE) (ag (D8 O a) ?_);rw[bf (n:=x+gI p.aY[i].bT) O,bf O];exact m _ ⟨i+1,Z,O,by dsimp only;rw[WL bE];omega,Z,Z⟩ Z
 have e:i=p.aY.length:=O
 rw[k,e,cT]
theorem LR(a:7700000<=n)(b:p.aY.length<=4)(c:kK p.aY):Cg n p=some (fQ p.aY):=Lp a b c
def jo:Nat->List cx->List Int->Expr->List Int->Int
 |0,_,_,_,_=>0
 |L+1,c,m,e,q=>
  if e.kind=1 then e.num
  else if e.kind=2 then fJ e.index q%1000
  else if e.kind=3 then m.getD (ev c e.read q 0).toNat 0
  else match e.bj with
   | [a,b]=>if e.kind=4 then(jo L c m a q+jo L c m b q)%1000 else if e.kind=5 then(jo L c m a q-jo L c m b q)%1000 else(jo L c m a q*jo L c m b q)%1000
   |_=>0
def rB(a:List cx)(m:List Int):Prop:=(m.length:Int)=fQ a/\ ∀x∈m,0<=x/\x<=999
theorem ac6(h:rB r m)(i:Nat):0<=m.getD i 0/\m.getD i 0<=999:=by
 rw[ek];cases a:m[i]? with
 |none=>simp
 |some x=>exact h.2 x (bC a)
theorem adf(b:rB r m): ∀{L:Nat} {e:Expr},dr L e d=true->0<=jo L r m e q/\jo L r m e q<=999
 |0,e,h=>by cases h
 |L+1,e,h=>by
  obtain⟨c,a,i⟩:=gM h;simp only[jo];split
  ·rename_i ez;unfold ei at a;rw[aT O,aT O,aW ez] at a;simp only[Bool.and_eq_true,decide_eq_true_eq] at a;omega
  split
  ·omega
  split
  ·exact ac6 b _
  split
  ·split
   ·omega
   split<;>omega
  omega
def f9(p:Prog)(x:cb):Prop:= ∃(i k:Nat) (P:Part) (s:Stmt),x.part=i/\x.stmt=k/\p.parts[i]? =some P/\P.body[k]? =some s/\x.cF∈iH P
def tj(p:Prog)(x:cb):Option Stmt:=(p.parts[x.part.toNat]?).bind λP=>P.body[x.stmt.toNat]?
def iV(p:Prog)(m:List Int)(x:cb):List Int:=match tj p x with
 |some s=>m.set (ev p.aY s.write x.cF 0).toNat (jo 5 p.aY m s.value x.cF)
 |none=>m
theorem uF(n:bU p=true){x:cb}(o:f9 p x): ∃(i k:Nat) (P:Part) (s:Stmt) (d:Int),x.part=i/\x.stmt=k/\p.parts[i]? =some P/\P.body[k]? =some s/\tj p x=some s/\ep s d=true/\hv P.nest.length x.cF/\d9 p.aY s x.cF=true:=by obtain⟨C,D,F,a,q⟩:=eg n;obtain⟨i,k,P,s,h,l,b,c,m⟩:=o;obtain⟨r,G,w,y⟩:=fX (a P (bC b));obtain⟨H,z,e,A,B⟩:=rH r;have hs:=bC c;exact⟨i,k,P,s,_,h,l,b,c,by unfold tj;rw[h,l,cV,b];exact(by rw[cV];exact c),w s hs,e _ m,(y s hs _ m).1⟩
theorem Gh(h:d9 r s q=true):0<=ev r s.write q 0/\ ∀a∈dN 5 s.value,0<=ev r a q 0:=by simp only[d9,Bool.and_eq_true,decide_eq_true_eq,List.all_eq_true] at h;exact h
theorem FM{a:Type}{l:List a}(b:0<=c)(h:c.toNat<l.length)(x:a):ca l c x=some (l.set c.toNat x):=by unfold ca;rw[aW ⟨b,O⟩]
theorem wX{a:Type}{l:List a}(b:0<=c)(h:c.toNat<l.length):av l c=some l[c.toNat]:=by unfold av;rw[aW b,List.getElem?_eq_getElem h]
theorem N'(c:bU p=true)(a:rB p.aY m){x:cb}(e:f9 p x):rB p.aY (iV p m x):=by
 obtain⟨i,k,P,s,d,o,q,r,w,l,n,y,z⟩:=uF c e;unfold iV;rw[l];refine⟨by rw[fE];exact a.1,λv b=>?_⟩;rcases qM b with h|h
 ·exact a.2 v h
 rw[h];exact adf a (kd n).2.1
theorem gR{l:List Part}{x:cb}(h:x∈bk l): ∃(i k:Nat) (P:Part) (s:Stmt),x.part=i/\x.stmt=k/\l[i]? =some P/\P.body[k]? =some s/\x.cF∈iH P:=by unfold bk at h;rw[sJ] at h;obtain⟨⟨P,i⟩,c,a⟩:=h;unfold nO at a;rw[sJ] at a;obtain⟨q,d,b⟩:=a;rw[et] at b;obtain⟨k,e,rfl⟩:=b;have m:=n'.1 e;exact⟨i,k,P,P.body[k],rfl,rfl,Di.1 c,bg m,d⟩
def me(p:Prog)(m:List Int)(l:List cb):List Int:=l.foldl (iV p) m
end
section
def eR(B:Nat)(a:az):Prop:=a.aU.length<=B
def jV(B:Nat)(l:List az):Prop:=l.length<=B/\ ∀a∈l,eR B a
def q1(B:Nat)(a:List Loop):Prop:=a.length<=B/\ ∀l∈a,jV B l.lo/\jV B l.aD
def kr(B:Nat):Nat->Expr->Prop
 |0,_=>False
 |L+1,e=>e.bj.length<=B/\eR B e.index/\jV B e.read.bD/\ ∀k∈e.bj,kr B L k
def mu(B:Nat)(s:Stmt):Prop:=jV B s.write.bD/\kr B 5 s.value
def hB(B:Nat)(x:Part):Prop:=q1 B x.nest/\x.body.length<=B/\ ∀s∈x.body,mu B s
def vP(B:Nat)(l:List cx):Prop:=l.length<=B/\ ∀x∈l,x.bT.length<=B
def dK(B:Nat)(p:Prog):Prop:=vP B p.aY/\p.parts.length<=B/\ ∀x∈p.parts,hB B x
variable {B C n:Nat}{a R:Type}{l:List a}{s:Stmt}{p:Prog}{K:List a->Option R}{Q:R->Prop}
theorem eR.mono(h:B<=C){a:az}(b:eR B a):eR C a:=fF b h
theorem jV.mono(h:B<=C){l:List az}(b:jV B l):jV C l:=⟨fF b.1 h,λa c=>(b.2 a c).mono h⟩
theorem q1.mono(h:B<=C){l:List Loop}(b:q1 B l):q1 C l:=⟨fF b.1 h,λa c=>⟨(b.2 a c).1.mono h,(b.2 a c).2.mono h⟩⟩
theorem kr.mono{B C:Nat}(h:B<=C): ∀{L M:Nat} {e:Expr},L<=M->kr B L e->kr C M e
 |0,_,_,_,a=>a.elim
 |L+1,0,_,b,_=>O
 |L+1,M+1,e,b,a=>⟨fF a.1 h,a.2.1.mono h,a.2.2.1.mono h,λk c=>kr.mono h O (a.2.2.2 k c)⟩
theorem mu.mono(h:B<=C)(a:mu B s):mu C s:=⟨a.1.mono h,a.2.mono h (cD _)⟩
theorem hB.mono(h:B<=C){s:Part}(a:hB B s):hB C s:=⟨a.1.mono h,fF a.2.1 h,λs b=>(a.2.2 s b).mono h⟩
theorem vP.mono(h:B<=C){s:List cx}(a:vP B s):vP C s:=⟨fF a.1 h,λs b=>fF (a.2 s b) h⟩
theorem dK.mono(h:B<=C)(a:dK B p):dK C p:=⟨a.1.mono h,fF a.2.1 h,λs b=>(a.2.2 s b).mono h⟩
theorem jV.sm{l:List az}(h:jV 1100000 l):ju l:=⟨h.1,h.2⟩
theorem kr.sm: ∀{L:Nat} (j:Nat) {e:Expr},kr 1100000 L e->tc j e
 |_,0,_,_=>trivial
 |0,_+1,_,h=>h.elim
 |L+1,j+1,e,h=>⟨h.1,h.2.1,h.2.2.1.sm,λk a=>kr.sm j (h.2.2.2 k a)⟩
theorem mu.sm(h:mu 1100000 s):zE s:=⟨h.1.sm,h.2.sm 5⟩
theorem q1.sm{l:List Loop}(h:q1 1100000 l):pI l:=⟨h.1,λx a=>⟨(h.2 x a).1.sm,(h.2 x a).2.sm⟩⟩
theorem hB.sm{x:Part}(h:hB 1100000 x):G4 x:=⟨h.1.sm,h.2.1,λs a=>(h.2.2 s a).sm⟩
theorem dK.sm(h:dK 1100000 p):g' p:=⟨⟨h.1.1,h.1.2⟩,h.2.1,λx a=>(h.2.2 x a).sm⟩
theorem mW(n:Nat)(c:Int):la n c=some ⟨[0,0,0,0],c⟩:=rfl
theorem Fq{h:Type}{f:a->Option h}{g:a->h->a}(k: ∀x∈l,∃z,f x=some z/\g x z=x)(A:l.length<=1100000)(B:5500000<=n)(m:aa (K l) Q):
  aa (bc (λb ((x,i):List a×Int)=>bif decide (i<(l.length:Int)) then(Option.bind (av l i) λy=>Option.bind (f y) λz=>Option.bind (app x [g y z]) λw=>b (w,wr (i+1))) else K x) n ([],0)) Q:=by
 refine aa.loop (λz:List a×Int=> ∃i:Nat,z.2=i/\i<=l.length/\z.1=l.take i) (λz=>l.length-z.2.toNat) ?_ n _ ⟨0,rfl,O,a1⟩ Z;rintro b ⟨x,z⟩ ⟨i,e,C,c⟩ o;dsimp only at e c⊢;subst e;refine aR (λp=>?_) λq=>?_
 ·have bE:=bg (O:i<l.length);have r:x.length<=1100000:=by rw[c,cq];omega
  obtain⟨y,s,d⟩:=k _ (bC bE);refine ag (a' bE) (ag s (ag (cW bX) ?_));rw[bf O];refine o _ ⟨i+1,Z,O,?_⟩ Z;dsimp only;rw[dV,bE,c,d];rfl
 have:i=l.length:=O
 rw[c,this,cT];exact m
theorem qz{f:a->Option a}(c: ∀x∈l,f x=some x)(d:l.length<=1100000)(e:5500000<=n)(h:aa (K l) Q):
  aa (bc (λb ((x,i):List a×Int)=>bif decide (i<(l.length:Int)) then(Option.bind (av l i) λy=>Option.bind (f y) λz=>Option.bind (app x [z]) λw=>b (w,wr (i+1))) else K x) n ([],0)) Q:=
 Fq (g:=λ_ z=>z) (λx k=>⟨x,c x k,rfl⟩) d e h
theorem KP: ∀(L n:Nat) (e:Expr),5500000+L<=n->kr 1100000 L e->qC (n+1) e=some e
 |0,_,_,_,h=>h.elim
 |L+1,n,e,l,h=>by
  obtain⟨a,b,c,d⟩:=h;unfold qC;refine aa.eq (ag (DY n b) (ag (t6 O c.sm) ?_));obtain⟨n,rfl⟩: ∃j,n=j+1:=⟨n-1,O⟩
  exact qz (f:=qC (n+1)) (K:=λi=>some (⟨e.kind,e.num,e.index,e.read,i⟩:Expr)) (λx k=>KP L n x O (d x k)) a O (aa.some (by cases e;rfl))
theorem VZ(a:6600000<=n)(h:mu 1100000 s):vH n s=some s:=by
 obtain⟨n,rfl⟩: ∃j,n=j+1:=⟨n-1,O⟩
 unfold vH;rw[t6 O h.1.sm,KP 5 n s.value O h.2];rfl
theorem V0(R:6600000<=n){nest:List Loop}(h:q1 1100000 nest):v' n nest=some nest:=by
 obtain⟨W,B⟩:=h;refine aa.eq ?_;unfold v';refine aa.loop (λz:List Loop×Int=> ∃i:Nat,z.2=i/\i<=nest.length/\z.1=nest.take i) (λz=>nest.length-z.2.toNat) ?_ n _ ⟨0,rfl,O,a1⟩ Z;rintro b ⟨x,z⟩ ⟨i,d,X,e⟩ C;dsimp only at d e⊢;subst d;refine aR (λD=>?_) λF=>aa.some ?_
 ·have bE:=bg (O:i<nest.length);obtain⟨⟨j,G⟩,⟨ez,cv⟩⟩:=B _ (bC bE);have H:x.length<=1100000:=by rw[e,cq];omega
  refine aa.loop (λz:List az×Int=> ∃t:Nat,z.2=t/\t<=nest[i].lo.length/\z.1=nest[i].lo.take t) (λz=>nest[i].lo.length-z.2.toNat) ?_ n _ ⟨0,rfl,O,a1⟩ Z;rintro k ⟨y,z⟩ ⟨t,d,u,m⟩ o;dsimp only at d m⊢;subst d;refine ag (a' bE) (aR (λw=>?_) λA=>?_)
  ·have c:=bg (O:t<nest[i].lo.length);have L:y.length<=1100000:=by rw[m,cq];omega
   refine ag (a' c) (ag (mL _ (G _ (bC c))) (ag (cW bX) ?_));rw[bf O];refine o _ ⟨t+1,Z,O,?_⟩ Z;dsimp only;rw[dV,c,m];rfl
  have p:t=nest[i].lo.length:=O
  refine Fq (l:=nest[i].aD) (f:=λa:az=>app [] a.aU) (g:=λa q=>(⟨q,a.const⟩:az)) (K:=λr=>Option.bind (app x [(⟨y,r⟩:Loop)]) λs=>b (s,wr ((i:Int)+1))) (λa Q=>⟨_,mL _ (cv a Q),rfl⟩) ez O ?_;refine ag (cW bX) ?_;rw[bf O];refine C _ ⟨i+1,Z,O,?_⟩ Z;dsimp only;rw[dV,bE,e,m,p,cT];rfl
 have:i=nest.length:=O
 rw[e,this,cT]
theorem oV(D:6600000<=n)(h:dK 1100000 p):vF n p=some p:=by
 obtain⟨⟨aH,a2⟩,M,H⟩:=h;refine aa.eq ?_;unfold vF;refine Fq (n:=n) (l:=p.aY) (f:=λr:cx=>app [] r.bT) (g:=λr L=>(⟨r.name,L⟩:cx)) (K:=λQ=>bc (λb ((F,w):(List Part)×Int)=>
    bif decide (w<(p.parts.length:Int)) then(
     Option.bind (av p.parts w) λe=>
     Option.bind (v' n e.nest) λy=>
     bc (λc ((d,k):(List Stmt)×Int)=>
      bif decide (k<(e.body.length:Int)) then(
       Option.bind (av e.body k) λA=>
       Option.bind (vH n A) λB=>
       Option.bind (app d [B]) λC=>
       c (C,wr (k+1))
      ) else(
       Option.bind (app F [(⟨y,d⟩:Part)]) λm=>
       b (m,wr (w+1))
      )
     ) n ([],0)
    ) else(
     some (⟨Q,F⟩:Prog)
    )
   ) n ([],0)) (λa R=>⟨_,mL _ (a2 a R),rfl⟩) aH O ?_
 refine aa.loop (λz:List Part×Int=> ∃i:Nat,z.2=i/\i<=p.parts.length/\z.1=p.parts.take i) (λz=>p.parts.length-z.2.toNat) ?_ n _ ⟨0,rfl,O,a1⟩ Z;rintro o ⟨x,z⟩ ⟨i,G,N,q⟩ W;dsimp only at G q⊢;subst G;refine aR (λX=>?_) λj=>aa.some ?_
 ·have bE:=bg (O:i<p.parts.length);obtain⟨t,u,v⟩:=H _ (bC bE);have E:x.length<=1100000:=by rw[q,cq];omega
  refine ag (a' bE) (ag (V0 D t) ?_);refine qz (f:=vH n) (K:=λd=>Option.bind (app x [(⟨p.parts[i].nest,d⟩:Part)]) λm=>o (m,wr ((i:Int)+1))) (λs I=>VZ D (v s I)) u O ?_;refine ag (cW bX) ?_;rw[bf O];refine W _ ⟨i+1,Z,O,?_⟩ Z;dsimp only;rw[dV,bE,q];rfl
 have:i=p.parts.length:=O
 rw[q,this,cT]
theorem wD{i:Nat}{x:a}{P:a->Prop}(h: ∀y∈l,P y)(c:P x): ∀y∈l.set i x,P y:=λy d=>by
 rcases qM d with b|b
 ·exact h y b
 rw[b];exact c
theorem dS{i:Int}(h:0<=i/\i<l.length)(x:a):ca l i x=some (l.set i.toNat x):=by unfold ca;rw[aW h]
theorem abY{r:List cx}(b:kK r):0<=fQ r/\fQ r<=36*r.length:=by have c:=na (λx:cx=>gI x.bT) r λy a=>(rq (b y a)).1;have d:=AU (λx:cx=>gI x.bT) 36 r λy a=>(rq (b y a)).2;unfold fQ;omega
end
variable {a x b:cb}{l:List cb}{i q n k:Nat}{p:Prog}{R:Type}
theorem fw{a:Type}{l:List a}{x:a}(h:l[i]? =some x):l.take (i+1)=l.take i++[x]:=by rw[dV,h];rfl
def cZ(p:Prog)(x:cb):Nat:=match tj p x with
 |some s=>(ev p.aY s.write x.cF 0).toNat
 |none=>0
def rc(p:Prog)(x:cb):List Int:=match tj p x with
 |some s=>(dN 5 s.value).map (λa=>ev p.aY a x.cF 0)
 |none=>[]
def sO(p:Prog)(m:List Int)(x:cb):Int:=match tj p x with
 |some s=>jo 5 p.aY m s.value x.cF
 |none=>0
theorem N1{list:List cx}(b:kK list){a:b7}{q:List Int}(h:0<=ev list a q 0):ev list a q 0<fQ list:=by rcases N2 b a q 0 (gy 0) with bB|bB<;>omega
theorem mT(b:bU p=true)(n:f9 p x):(cZ p x:Int)<fQ p.aY/\(∀c∈rc p x,0<=c/\c<fQ p.aY)/\(rc p x).length<=12/\ ∀m,iV p m x=m.set (cZ p x) (sO p m x):=by obtain⟨i,k,P,s,d,C,D,F,G,o,q,H,r⟩:=uF b n;obtain⟨K,e,L,w,y⟩:=eg b;obtain⟨z,h⟩:=Gh r;obtain⟨Q,R,W,A⟩:=kd q;unfold cZ rc sO iV;rw[o];dsimp only;refine⟨by have:=N1 e z;omega,λc B=>?_,by rw[dj];exact A,λm=>rfl⟩;obtain⟨a,l,rfl⟩:=et.1 B;exact⟨h a l,N1 e (h a l)⟩
theorem Vn(v:7810000<=n)(l:bU p=true)(y:f9 p x):B1 n p x=some (rc p x,(cZ p x:Int)):=by
 obtain⟨i,k,P,s,d,A,B,C,D,m,F,o,G⟩:=uF l y;obtain⟨q,r,E,H,K⟩:=eg l;obtain⟨I,M⟩:=Gh G;obtain⟨L,Q,W,N⟩:=kd F;obtain⟨n,rfl⟩: ∃j,n=j+1:=⟨n-1,O⟩
 have c:Co (n+1) p x=some s:=by
  unfold Co;rw[A,B,a' C];show Option.bind (av P.body (k:Int)) _=_;rw[a' D];rfl
 have X:(cZ p x:Int)=ev p.aY s.write x.cF 0:=by unfold cZ;rw[m];dsimp only;omega
 have f:rc p x=(dN 5 s.value).map (λa=>ev p.aY a x.cF 0):=by unfold rc;rw[m]
 rw[X,f];refine aa.eq ?_;unfold B1;refine ag c (ag (EA (d:=d) 5 n s.value O O Q) ?_);generalize S:dN 5 s.value=R at*;refine aa.loop (λz:List Int×Int=> ∃i:Nat,z.2=i/\i<=R.length/\z.1=(R.take i).map λa=>ev p.aY a x.cF 0) (λz=>R.length-z.2.toNat) ?_ (n+1) _ ⟨0,rfl,O,a1⟩ Z;rintro h ⟨out,z⟩ ⟨i,w,T,b⟩ g;dsimp only at w b⊢;subst w;refine aR (λt=>?_) λu=>?_
 ·have bE:=bg (O:i<R.length);refine ag (a' bE) (ag (zo O q r (W _ (bC bE)) o) (ag (cW (by rw[b,dj,cq,kS];omega)) ?_));rw[bf O];refine g _ ⟨i+1,Z,O,?_⟩ Z;dsimp only;rw[fw bE,gJ,b];rfl
 have e:i=R.length:=O
 refine ag (zo O q r L o) (aa.some ?_);rw[b,e,cT]
theorem YP(F:7810000<=n)(b:bU p=true)(h:f9 p x): ∃P s,av p.parts x.part=some P/\av P.body x.stmt=some s/\vg n p.aY s x.cF=some (rc p x,(cZ p x:Int),true):=by
 obtain⟨i,k,P,s,d,l,m,o,q,c,r,w,e⟩:=uF b h;obtain⟨y,z,G,A,B⟩:=eg b;obtain⟨H,K⟩:=Gh e;have C:(cZ p x:Int)=ev p.aY s.write x.cF 0:=by unfold cZ;rw[c];dsimp only;omega
 have D:rc p x=(dN 5 s.value).map (λa=>ev p.aY a x.cF 0):=by unfold rc;rw[c]
 refine⟨P,s,by rw[l];exact a' o,by rw[m];exact a' q,?_⟩;rw[Kw O y z r w,aW e,C,D]
theorem Mo{r:List cx}{m l:List Int}{q:List Int}{d:Int}: ∀{L:Nat} {e:Expr},dr L e d=true->(∀a∈dN L e,m.getD (ev r a q 0).toNat 0=l.getD (ev r a q 0).toNat 0)->jo L r m e q=jo L r l e q
 |0,e,h,_=>by cases h
 |L+1,e,h,n=>by
  obtain⟨w,x,p⟩:=gM h;simp only[jo];split
  ·rfl
  split
  ·rfl
  split
  ·rename_i dU;exact n _ (by simp[dN,dU])
  have i: ∀c∈e.bj,jo L r m c q=jo L r l c q:=λc o=>
   Mo (p c o) λa s=>n a (by simp only[dN,List.mem_append,List.mem_flatMap];exact .inr ⟨c,o,s⟩)
  split
  ·rename_i a b k;rw[k] at i;rw[i a a1,i b a1]
  rfl
theorem aa9(b:bU p=true)(l:f9 p x){m e:List Int}(h: ∀c∈rc p x,m.getD c.toNat 0=e.getD c.toNat 0):sO p m x=sO p e x:=by obtain⟨i,k,P,s,d,r,w,y,z,n,o,A,B⟩:=uF b l;unfold sO;unfold rc at h;rw[n] at h⊢;exact Mo (kd o).2.1 λa q=>h _ (List.mem_map_of_mem q)
theorem FZ{a:Type}(l:List a)(i j:Nat)(x d:a):(l.set i x).getD j d=if i=j/\i<l.length then x else l.getD j d:=by
 rw[ek,ek,List.getElem?_set];split
 ·rename_i h;subst h;split
  ·rename_i b;rw[aW ⟨rfl,b⟩];rfl
  rename_i b;rw[aT O,yC O]
 rename_i h;rw[aT λb=>h b.1]
def o9(l:List Bool):List Int:=((List.range l.length).filter λi=>l.getD i false).map (fun(i:Nat)=>(i:Int))
theorem Wn{l:List Bool}(r:l.length<n)(k:l.length<=1100000):uY n l=some (o9 l):=by
 refine aa.eq ?_;unfold uY;refine aa.loop (λz:List Int×Int=> ∃i:Nat,z.2=i/\i<=l.length/\z.1.length<=i/\z.1=((List.range i).filter λi=>l.getD i false).map (fun(i:Nat)=>(i:Int))) (λz=>l.length-z.2.toNat) ?_ n _ ⟨0,rfl,O,a1,a1⟩ Z;rintro c ⟨out,z⟩ ⟨i,a,s,mS,b⟩ m;dsimp only at a b mS⊢;subst a;refine aR (λo=>?_) λp=>aa.some ?_
 ·have bE:=bg (O:i<l.length);have q:l.getD i false=l[i]:=by rw[ek,bE];rfl
  refine aa.aI (λz=>z.length<=i+1/\z=((List.range (i+1)).filter λi=>l.getD i false).map (fun(i:Nat)=>(i:Int))) (λj d=>ag (a' bE) (aa.cond (λh=>ag (cW (by rw[kS];omega)) (d _ ?_)) λh=>d _ ?_)) λz a=>?_
  ·refine⟨by rw[cP,kS];omega,?_⟩;rw[nj,pk,gJ,<-b];simp[bE,h]
  ·refine⟨O,?_⟩;rw[nj,pk,gJ,<-b];simp[bE,h]
  rw[bf O];exact m _ ⟨i+1,Z,O,a.1,a.2⟩ Z
 have e:i=l.length:=O
 rw[b,e];rfl
theorem Kz{l:List Bool}(b:l.length<n)(a:l.length<=1100000):uY n l=some (o9 l):=Wn b a
theorem KM(l:List Bool):(o9 l).length<=l.length:=by unfold o9;rw[dj];exact fF (sH _ _) a1
theorem Ed{l:List Bool}{c:Int}:c∈o9 l↔0<=c/\l.getD c.toNat false=true:=by
 unfold o9;simp only[List.mem_map,List.mem_filter,List.mem_range];constructor
 ·rintro⟨i,⟨d,a⟩,rfl⟩;exact⟨O,by rw[cV];exact a⟩
 rintro⟨d,a⟩;refine⟨c.toNat,⟨?_,a⟩,O⟩;refine vt λb=>?_;rw[ek,yC b] at a;cases a
theorem Vq(b:7700000<=n)(c:g' p): ∃L,ud n p=some (L,bU p)/\(bU p=true->L=bk p.parts):=by
 rw[J4 b c];cases a:iO p with
 |false=>
  refine⟨[],?_,λh=>?_⟩
  ·rw[aT a1,show bU p=false by unfold bU;rw[a];rfl]
  unfold bU at h;rw[a] at h;cases h
 |true=>
  refine⟨bk p.parts,?_,λ_=>rfl⟩;rw[aW rfl,show bU p=decide ((bk p.parts).length<=120) by
   unfold bU;rw[a,Bool.true_and];exact decide_eq_decide.2 (by have:=BP p.parts;omega)]
abbrev hT(p:Prog):Nat:=(fQ p.aY).toNat
theorem G8{a:Type}{n:Int}(h:0<=n/\n<=1000000000)(x:a):mk n x=some (List.replicate n.toNat x):=by unfold mk;rw[aW h]
def pick(l:List cb)(o:List Int):List cb:=o.filterMap λc=>l[c.toNat]?
def PF(p:Prog)(a b:cb):Prop:=(cZ p a:Int)∈rc p b\/(cZ p b:Int)∈rc p a\/cZ p a=cZ p b
def HE(p:Prog)(a b:cb):Prop:= ∀m,rB p.aY m->iV p (iV p m a) b=iV p (iV p m b) a
theorem OA(a:bU p=true)(d:f9 p b){w:Nat}(h:(w:Int)∉rc p b)(m:List Int)(v:Int):sO p (m.set w v) b=sO p m b:=by refine aa9 a d λc i=>?_;have k:=(mT a d).2.1 c i;rw[FZ,aT];rintro⟨e,_⟩;exact h (by rw[e,yD k.1];exact i)
theorem swap(c:bU p=true)(d:f9 p a)(i:f9 p b)(h: ¬PF p a b):HE p a b:=by intro m _;have n:(cZ p a:Int)∉rc p b:=λe=>h (.inl e);have o:(cZ p b:Int)∉rc p a:=λe=>h (.inr (.inl e));have q:cZ p a≠cZ p b:=λe=>h (.inr (.inr e));have k:=(mT c d).2.2.2;have l:=(mT c i).2.2.2;rw[k,l,l,k,OA c i n,OA c d o,List.set_comm _ _ q]
def nr(p:Prog)(a b:cb):Int:=(if(cZ p a:Int)∈rc p b then 1 else 0)+(if(cZ p b:Int)∈rc p a then 2 else 0)+(if cZ p a=cZ p b then 4 else 0)
theorem acW(p:Prog)(a b:cb):0<=nr p a b/\nr p a b<=7:=by unfold nr;split<;>split<;>split<;>omega
def l5(p:Prog)(l:List cb)(i k:Nat):Int:=match l[i]?,l[k]? with
 |some a,some b=>nr p a b
 |_,_=>0
theorem Gk(c:l[i]? =some a)(d:l[k]? =some b):l5 p l i k=nr p a b:=by unfold l5;rw[c,d]
theorem ad1(p:Prog)(l:List cb)(i k:Nat):0<=l5 p l i k/\l5 p l i k<=7:=by
 unfold l5;split
 ·exact acW _ _ _
 omega
def kN(p:Prog)(l:List cb)(i j:Nat):List fu:=((List.range j).filter λk=>decide (i<k)&&decide (l5 p l i k≠0)).map (fun(k:Nat)=>(⟨(i:Int),(k:Int),l5 p l i k⟩:fu))
def fR(p:Prog)(l:List cb)(n:Nat):List fu:=(List.range n).flatMap λi=>kN p l i l.length
theorem Du(p:Prog)(l:List cb){j:Nat}(h:i<j):kN p l i (j+1)=kN p l i j++(if l5 p l i j=0 then [] else [⟨(i:Int),(j:Int),l5 p l i j⟩]):=by
 unfold kN;rw[nj,pk,gJ];congr 1;split
 ·rename_i e;simp[e]
 rename_i e;simp[e,h]
theorem ED(p:Prog)(l:List cb)(i:Nat): ∀j,j<=i+1->kN p l i j=[]
 |0,_=>rfl
 |j+1,h=>by have a:=ED p l i j O;unfold kN at a⊢;rw[nj,pk,gJ,a];simp[show¬i<j by omega]
theorem EC(p:Prog)(l:List cb)(n:Nat):fR p l (n+1)=fR p l n++kN p l n l.length:=by unfold fR;rw[nj,lE];simp
theorem EE(p:Prog)(l:List cb)(i j:Nat):(kN p l i j).length<=j:=by unfold kN;rw[dj];exact fF (sH _ _) a1
theorem yV(p:Prog)(l:List cb): ∀n,(fR p l n).length<=n*l.length
 |0=>by simp[fR]
 |n+1=>by
  rw[EC,cP,dC,Nat.one_mul]
  have:=yV p l n
  have:=EE p l n l.length;omega
theorem MI{d:fu}:d∈fR p l l.length↔ ∃i k:Nat,i<k/\k<l.length/\l5 p l i k≠0/\d=⟨(i:Int),(k:Int),l5 p l i k⟩:=by
 unfold fR kN;simp only[List.mem_flatMap,List.mem_range,List.mem_map,List.mem_filter,Bool.and_eq_true,decide_eq_true_eq];constructor
 ·rintro⟨i,c,k,⟨a,b,e⟩,rfl⟩;exact⟨i,k,b,a,e,rfl⟩
 rintro⟨i,k,c,a,b,rfl⟩;exact⟨i,O,k,⟨a,c,b⟩,rfl⟩
def places(o:List Int):Nat->List Int
 |0=>List.replicate o.length 0
 |k+1=>(places o k).set (o.getD k 0).toNat (k:Int)
def oe(p:Prog)(l:List cb)(i:Nat):Int:=match l[i]? with
 |some a=>(cZ p a:Int)
 |none=> -1
def CD(p:Prog)(l:List cb)(i:Nat):List Int:=match l[i]? with
 |some a=>rc p a
 |none=>[]
theorem vS(h:l[i]? =some a):oe p l i=(cZ p a:Int):=by unfold oe;rw[h]
theorem zQ(h:l[i]? =some a):CD p l i=rc p a:=by unfold CD;rw[h]
def ix(p:Prog)(l:List cb)(c:Int):Nat->Int
 |0=> -1
 |i+1=>if oe p l i=c then(i:Int) else ix p l c i
theorem OP(p:Prog)(l:List cb)(c:Int): ∀i,-1<=ix p l c i/\ix p l c i<(i:Int)
 |0=>by simp[ix]
 |i+1=>by have:=OP p l c i;unfold ix;split<;>omega
def lM(p:Prog)(l:List cb)(i:Nat):Bool:= !(l.drop (i+1)).any λx=>decide ((cZ p x:Int)=oe p l i)
def j0(f:List Bool)(a:List Int):List Bool:=a.foldl (λf s=>if 0<=s then f.set s.toNat true else f) f
theorem zU: ∀(a:List Int) (f:List Bool),(j0 f a).length=f.length
 | [],f=>rfl
 |s::a,f=>by
  show(j0 (if 0<=s then f.set s.toNat true else f) a).length=_;rw[zU];split
  ·rw[fE]
  rfl
theorem zk(f:List Bool)(a:List Int)(s:Int):j0 f (a++[s])=if 0<=s then(j0 f a).set s.toNat true else j0 f a:=by unfold j0;rw[List.foldl_append];rfl
theorem MJ{i:Nat}: ∀{a:List Int} {f:List Bool},i<f.length->((j0 f a).getD i false=true↔f.getD i false=true\/(i:Int)∈a)
 | [],f,_=>by simp[j0]
 |s::a,f,h=>by
  show(j0 (if 0<=s then f.set s.toNat true else f) a).getD i false=true↔_;rw[MJ (by split;rw[fE];exact h;exact h),dI];by_cases b:0<=s
  ·rw[aW b,FZ];by_cases e:s.toNat=i
   ·rw[aW ⟨e,O⟩];simp[show(i:Int)=s by omega]
   rw[aT λc=>e c.1]
   have: ¬(i:Int)=s:=O
   simp[this]
  rw[aT b]
  have: ¬(i:Int)=s:=O
  simp[this]
def hn(p:Prog)(l:List cb)(i:Nat):List Int:=(CD p l i).map λc=>ix p l c i
def kj(p:Prog)(l:List cb):Nat->List Bool
 |0=>List.replicate l.length false
 |j+1=>if(kj p l j).getD (l.length-1-j) false=true\/lM p l (l.length-1-j)=true then j0 ((kj p l j).set (l.length-1-j) true) (hn p l (l.length-1-j)) else kj p l j
theorem sl(p:Prog)(l:List cb): ∀j,(kj p l j).length=l.length
 |0=>by simp[kj]
 |j+1=>by
  unfold kj;split
  ·rw[zU,fE,sl p l j]
  exact sl p l j
abbrev jQ(p:Prog)(l:List cb):List Bool:=kj p l l.length
def tR(a b:az):Bool:=decide (a.aU=b.aU)&&decide (a.const=b.const)
def pr:List az->List az->Bool
 | [],[]=>true
 |a::as,b::c=>tR a b&&pr as c
 |_,_=>false
theorem OQ: ∀d∈fR p l l.length,0<=d.1/\d.1<d.2/\d.2<(l.length:Int):=by intro d a;obtain⟨i,k,b,c,e,rfl⟩:=MI.1 a;exact⟨by show(0:Int)<=(i:Int);omega,by show(i:Int)<(k:Int);omega,by show(k:Int)<_;omega⟩
theorem DZ{l:List Int}(o:l.length<n)(p:l.length<=1100000)(v:Int):i8 n l v=some (decide (v∈l)):=by
 refine aa.eq ?_;unfold i8;refine gA (P:=λi=>decide ((0:Int)<=i)=decide (v∈l)) ?_ λx c=>aa.some c;unfold D';refine aa.loop (λz:Int=> ∃i:Nat,z=i/\i<=l.length/\v∉l.take i) (λz=>l.length-z.toNat) ?_ n 0 ⟨0,rfl,O,a1⟩ O;rintro b z ⟨i,rfl,q,a⟩ d;refine aR (λk=>?_) λm=>aa.some ?_
 ·have bE:=bg (O:i<l.length);refine ag (a' bE) (aR (λe=>aa.some ?_) λe=>?_)
  ·rw[bp O,bp];rw[e];exact bC bE
  rw[bf O];refine d _ ⟨i+1,O,O,?_⟩ O;rw[fw bE,ef,kU];rintro(h|h)
  ·exact a h
  exact e h
 have e:i=l.length:=O
 rw[e,cT] at a;rw[bs O,bs a]
theorem FP{l:List Int}(m:l.length<n)(o:l.length<=1100000)(v:Int):s4 n l v=some (decide (v∈l)):=by
 refine aa.eq ?_;unfold s4;refine aa.loop (λz:Int=> ∃i:Nat,z=i/\i<=l.length/\v∉l.take i) (λz=>l.length-z.toNat) ?_ n 0 ⟨0,rfl,O,a1⟩ O;rintro b z ⟨i,rfl,p,a⟩ c;refine aR (λd=>?_) λk=>aa.some ?_
 ·have bE:=bg (O:i<l.length);refine ag (a' bE) (aR (λe=>aa.some ?_) λe=>?_)
  ·rw[bp];rw[<-e];exact bC bE
  rw[bf O];refine c _ ⟨i+1,O,O,?_⟩ O;rw[fw bE,ef,kU];rintro(h|h)
  ·exact a h
  exact e h.symm
 have e:i=l.length:=O
 rw[e,cT] at a;rw[bs a]
def fr(p:Prog):nx:=⟨p,bk p.parts,(bk p.parts).map (rc p),(bk p.parts).map λx=>(cZ p x:Int)⟩
theorem je{a:Type}{l:List a}{f:a->R}{x:a}(h:l[i]? =some x):(l.map f)[i]? =some (f x):=by rw[er,h];rfl
theorem zV{a:Type}{l:List a}{f:a->R}{x:a}(h:l[i]? =some x):(l.take (i+1)).map f=(l.take i).map f++[f x]:=by rw[fw h,gJ];rfl
theorem u6(A:7810000<=n)(m:g' p):nX n p=some (if bU p=true then(some (fr p),true) else(none,false)):=by
 obtain⟨L,o,q⟩:=Vq (n:=n) O m;refine aa.eq ?_;unfold nX;refine ag o ?_;dsimp only;cases h:bU p with
 |false=>exact aa.some rfl
 |true=>
  rw[q h];have r:=(eg h).2.2.2.2;refine bS (aa.loop (λz:List (List Int)×List Int×Int=> ∃i:Nat,z.2.2=i/\i<=(bk p.parts).length/\z.1=((bk p.parts).take i).map (rc p)/\z.2.1=((bk p.parts).take i).map λx=>(cZ p x:Int)) (λz=>(bk p.parts).length-z.2.2.toNat) ?_ n _ ⟨0,rfl,O,rfl,rfl⟩ (by first|omega|(dsimp only;omega)));rintro k ⟨a,b,z⟩ ⟨i,l,B,c,d⟩ s;dsimp only at l c d⊢;subst l;refine aR (λw=>?_) λy=>aa.some ?_
  ·have bE:=bg (O:i<(bk p.parts).length);refine ag (a' bE) (ag (Vn O h (gR (bC bE))) (ag (cW (by rw[c,dj,cq,kS];omega)) (ag (cW (by rw[d,dj,cq,kS];omega)) ?_)));rw[bf O];exact s _ ⟨i+1,Z,O,by dsimp only;rw[zV bE,c],by dsimp only;rw[zV bE,d]⟩ Z
  have e:i=(bk p.parts).length:=O
  rw[c,d,e,cT];rfl
def jO(p:Prog):List jX:=(bk p.parts).map λx=>(⟨rc p x,(cZ p x:Int)⟩:jX)
theorem y7(k:7810000<=n)(c:bU p=true):sy n p=some (jO p):=by
 have l:=(eg c).2.2.2.2;refine aa.eq ?_;unfold sy jO;refine ag (uD O c) (aa.loop (λz:List jX×Int=> ∃i:Nat,z.2=i/\i<=(bk p.parts).length/\z.1=((bk p.parts).take i).map λx=>(⟨rc p x,(cZ p x:Int)⟩:jX)) (λz=>(bk p.parts).length-z.2.toNat) ?_ n _ ⟨0,rfl,O,rfl⟩ Z);rintro d ⟨a,z⟩ ⟨i,h,A,b⟩ m;dsimp only at h b⊢;subst h;refine aR (λo=>?_) λq=>aa.some ?_
 ·have bE:=bg (O:i<(bk p.parts).length);obtain⟨P,s,r,w,y⟩:=YP k c (gR (bC bE));refine ag (a' bE) (ag r (ag w (ag y (ag (cW (by rw[b,dj,cq,kS];omega)) ?_))));rw[bf O];exact m _ ⟨i+1,Z,O,by dsimp only;rw[zV bE,b]⟩ Z
 have e:i=(bk p.parts).length:=O
 rw[b,e,cT]
theorem q7(b:bU p=true)(c: ∀x∈l,f9 p x)(h:l[i]? =some a):(rc p a).length<=12:=(mT b (c _ (bC h))).2.2.1
theorem Oo{Q:R->Prop}{A B:Option Bool}(q:A=some (decide ((cZ p a:Int)∈rc p b)))(r:B=some (decide ((cZ p b:Int)∈rc p a))){c:Int->Option R}(h:aa (c (nr p a b)) Q):
  aa (aI (fun(m:Int)=>aI (fun(i:Int)=>aI c λk=>bif decide ((cZ p a:Int)=(cZ p b:Int)) then(k (wr (i+4))) else(k i))
   λn=>Option.bind B λs=>bif s then(n (wr (m+2))) else(n m))
   λo=>Option.bind A λw=>bif w then(o (wr (0+1))) else(o 0)) Q:=by
 refine aa.aI (λz=>z=if(cZ p a:Int)∈rc p b then 1 else 0) (λj d=>ag q (aR (λe=>d _ (by rw[aW e];rfl)) λe=>d _ (by rw[aT e]))) λz l=>?_;subst l;refine aa.aI (λz=>z=(if(cZ p a:Int)∈rc p b then 1 else 0)+if(cZ p b:Int)∈rc p a then 2 else 0) (λj d=>ag r (aR (λe=>d _ ?_) λe=>d _ ?_)) λz l=>?_
 ·rw[aW e];split<;>rfl
 ·rw[aT e,Int.add_zero]
 subst l;refine aa.aI (λz=>z=nr p a b) (λj d=>aR (λe=>d _ ?_) λe=>d _ ?_) λz l=>by subst l;exact h
 ·unfold nr;rw[aW (O:cZ p a=cZ p b)];split<;>split<;>rfl
 unfold nr;rw[aT (show¬cZ p a=cZ p b by omega),Int.add_zero]
theorem Vr(r:7810000<=n)(h:bU p=true)(c:(bk p.parts)[i]? =some a)(d:(bk p.parts)[k]? =some b):B' n (fr p) (i:Int) (k:Int)=some (l5 p (bk p.parts) i k):=by rw[Gk c d];have s:=q7 h (λx e=>gR e) c;have w:=q7 h (λx e=>gR e) d;have l:av (fr p).reads (i:Int)=some (rc p a):=a' (je c);have m:av (fr p).reads (k:Int)=some (rc p b):=a' (je d);have o:av (fr p).db (i:Int)=some (cZ p a:Int):=a' (je c);have q:av (fr p).db (k:Int)=some (cZ p b:Int):=a' (je d);refine aa.eq ?_;unfold B';rw[l,m,o,q];exact Oo (DZ O O _) (DZ O O _) (aa.some rfl)
theorem Wu(c:7810000<=n)(d:(rc p a).length<=12)(e:(rc p b).length<=12):y9 n ⟨rc p a,(cZ p a:Int)⟩ ⟨rc p b,(cZ p b:Int)⟩=some (nr p a b):=by refine aa.eq ?_;unfold y9;exact Oo (FP O O _) (FP O O _) (aa.some rfl)
theorem Fl(K:7810000<=n)(D:bU p=true):uM n (fr p)=some (fR p (bk p.parts) (bk p.parts).length):=by
 have s:=(eg D).2.2.2.2;refine aa.eq ?_;unfold uM;rw[show(fr p).list=bk p.parts from rfl];generalize o:bk p.parts=l at*;have L: ∀x∈l,f9 p x:=λx Q=>gR (by rw[o];exact Q);refine aa.loop (λz:List fu×Int=> ∃i:Nat,z.2=i/\i<=l.length/\z.1=fR p l i) (λz=>l.length-z.2.toNat) ?_ n _ ⟨0,rfl,O,rfl⟩ Z;rintro w ⟨a,z⟩ ⟨i,q,g,A⟩ R;dsimp only at q A⊢;subst q;refine aR (λW=>?_) λX=>aa.some ?_
 ·have bE:=bg (O:i<l.length);rw[bf O];refine aa.loop (λz:List fu×Int=> ∃j:Nat,z.2=j/\i<j/\j<=l.length/\z.1=fR p l i++kN p l i j) (λz=>l.length-z.2.toNat) ?_ n _ ⟨i+1,Z,O,O,by dsimp only;rw[A,ED p l i _ (cD _),jU]⟩ Z;rintro r ⟨b,y⟩ ⟨j,F,c,t,d⟩ B;dsimp only at F d⊢;subst F;refine aR (λG=>?_) λH=>?_
  ·have C:=bg (O:j<l.length);have h:=Vr K D (i:=i) (k:=j) (by rw[o];exact bE) (by rw[o];exact C);rw[o] at h;have f:=(ad1 p l i j).1;refine aa.aI (λz=>z=fR p l i++kN p l i (j+1)) (λu m=>ag h (aR (λe=>ag (cW ?_) (m _ ?_)) λe=>m _ ?_)) λz q=>?_
   ·have v:=yV p l i;have E:=EE p l i j;have I:i*l.length<=120*120:=nh O s;rw[d,cP,kS];omega
   ·rw[d,Du p l c,aT O,fs]
   ·rw[d,Du p l c,aW O,jU]
   subst q;rw[bf O];exact B _ ⟨j+1,Z,O,O,rfl⟩ Z
  have e:j=l.length:=O
  try rw[bf O]
  exact R _ ⟨i+1,Z,O,by dsimp only;rw[d,e,EC]⟩ Z
 have e:i=l.length:=O
 rw[A,e]
theorem EP(G:7810000<=n)(r:bU p=true):vA n p=some (fR p (bk p.parts) (bk p.parts).length):=by
 have A:=(eg r).2.2.2.2;refine aa.eq ?_;unfold vA;refine ag (y7 G r) ?_;have B:(jO p).length=(bk p.parts).length:=by unfold jO;rw[dj]
 have d: ∀(i:Nat) x,(bk p.parts)[i]? =some x->av (jO p) (i:Int)=some ⟨rc p x,(cZ p x:Int)⟩:=λi x h=>a' (je h);rw[B];generalize jO p=u at*;generalize Q:bk p.parts=l at*;have k: ∀x∈l,f9 p x:=λx R=>gR (by rw[Q];exact R);refine aa.loop (λz:List fu×Int=> ∃i:Nat,z.2=i/\i<=l.length/\z.1=fR p l i) (λz=>l.length-z.2.toNat) ?_ n _ ⟨0,rfl,O,rfl⟩ Z;rintro C ⟨a,z⟩ ⟨i,s,t,D⟩ W;dsimp only at s D⊢;subst s;refine aR (λX=>?_) λf=>aa.some ?_
 ·have bE:=bg (O:i<l.length);rw[bf O];refine aa.loop (λz:List fu×Int=> ∃j:Nat,z.2=j/\i<j/\j<=l.length/\z.1=fR p l i++kN p l i j) (λz=>l.length-z.2.toNat) ?_ n _ ⟨i+1,Z,O,O,by dsimp only;rw[D,ED p l i _ (cD _),jU]⟩ Z;rintro w ⟨b,y⟩ ⟨j,H,m,v,o⟩ F;dsimp only at H o⊢;subst H;refine aR (λK=>?_) λL=>?_
  ·have c:=bg (O:j<l.length);have g:=Wu G (q7 r k bE) (q7 r k c);refine aa.aI (λz=>z=fR p l i++kN p l i (j+1)) (λE q=>ag (d _ _ bE) (ag (d _ _ c) (ag g (dZ (λe=>ag (cW ?_) (q _ ?_)) λe=>q _ ?_)))) λz s=>?_
   ·have I:=yV p l i;have M:=EE p l i j;have N:i*l.length<=120*120:=nh O A;rw[o,cP,kS];omega
   ·rw[o,Du p l m,Gk bE c,aT e,fs]
   ·rw[o,Du p l m,Gk bE c,aW e,jU]
   subst s;rw[bf O];exact F _ ⟨j+1,Z,O,O,rfl⟩ Z
  have e:j=l.length:=O
  try rw[bf O]
  exact W _ ⟨i+1,Z,O,by dsimp only;rw[o,e,EC]⟩ Z
 have e:i=l.length:=O
 rw[D,e]
theorem y6(p:Prog)(l:List cb)(c:Int)(i:Nat):ix p l c (i+1)=if oe p l i=c then(i:Int) else ix p l c i:=rfl
theorem Vo(E:7810000<=n)(H:bU p=true)(L:i<(bk p.parts).length):B9 n (fr p) (i:Int)=some (hn p (bk p.parts) i):=by
 have Q:=(eg H).2.2.2.2;have r: ∀x∈bk p.parts,f9 p x:=λx R=>gR R;have w:=bg L;have I:=q7 H r w;have W:av (fr p).reads (i:Int)=some (rc p (bk p.parts)[i]):=a' (je w);refine aa.eq ?_;unfold B9 hn;rw[zQ w,W];generalize rc p (bk p.parts)[i]=b at*;have A:wr ((i:Int)-1)=(i:Int)-1:=bf O;rw[A];refine ag rfl (aa.loop (λz:List Int×Int=> ∃k:Nat,z.2=k/\k<=b.length/\z.1=(b.take k).map λc=>ix p (bk p.parts) c i) (λz=>b.length-z.2.toNat) ?_ n _ ⟨0,rfl,O,rfl⟩ Z);rintro d ⟨a,z⟩ ⟨k,l,M,m⟩ X;dsimp only at l m⊢;subst l;refine aR (λf=>?_) λg=>aa.some ?_
 ·have bE:=bg (O:k<b.length);refine ag (a' bE) ?_;have B: ∀y:Int,y=ix p (bk p.parts) b[k] i->aa (Option.bind (app a [y]) λC=>d (C,wr ((k:Int)+1))) (λx=>x=b.map λc=>ix p (bk p.parts) c i):=by
   intro y t;refine ag (cW (by rw[m,dj,cq,kS];omega)) ?_;rw[bf O];exact X _ ⟨k+1,Z,O,by dsimp only;rw[zV bE,m,t]⟩ Z
  refine aa.loop (λz:Int=> ∃s:Nat,z=(s:Int)-1/\s<=i/\ix p (bk p.parts) b[k] i=ix p (bk p.parts) b[k] s) (λz=>(z+1).toNat) ?_ n _ ⟨i,rfl,cD _,rfl⟩ O;rintro o z ⟨s,rfl,N,h⟩ D;refine aa.aI (λz=>z=true/\(∃q,s=q+1/\oe p (bk p.parts) q≠b[k])\/z=false/\(s:Int)-1=ix p (bk p.parts) b[k] i) (λj F=>aR (λu=>?_) λu=>F _ (.inr ⟨rfl,?_⟩)) λz l=>?_
  ·obtain⟨q,rfl⟩: ∃q,s=q+1:=⟨s-1,O⟩
   have K:=bg (O:q<(bk p.parts).length);have v:av (fr p).db (((q+1:Nat):Int)-1)=some (oe p (bk p.parts) q):=by
    rw[show((q+1:Nat):Int)-1=(q:Int) by omega,vS K];exact a' (je K)
   refine ag v ?_;by_cases e:oe p (bk p.parts) q=b[k]
   ·rw[bp e];refine F _ (.inr ⟨rfl,?_⟩);rw[h,y6,aW e];omega
   rw[bs e];exact F _ (.inl ⟨rfl,q,rfl,e⟩)
  ·have:s=0:=O
   subst this;rw[h];rfl
  rcases l with ⟨rfl,q,rfl,G⟩|⟨rfl,l⟩
  ·refine bY ?_;rw[bf O];exact D _ ⟨q,O,O,by rw[h,y6,aT G]⟩ O
  exact bS (B _ l)
 have e:k=b.length:=O
 rw[m,e,cT]
theorem Vx(A:7810000<=n)(m:bU p=true)(B:i<=(bk p.parts).length)(c:Int):DD n (jO p) (i:Int) c=some (ix p (bk p.parts) c i):=by
 have o:=(eg m).2.2.2.2;have d: ∀(i:Nat) x,(bk p.parts)[i]? =some x->av (jO p) (i:Int)=some ⟨rc p x,(cZ p x:Int)⟩:=λi x h=>a' (je h);refine aa.eq ?_;unfold DD;rw[bf O];refine aa.loop (λz:Int=> ∃s:Nat,z=(s:Int)-1/\s<=i/\ix p (bk p.parts) c i=ix p (bk p.parts) c s) (λz=>(z+1).toNat) ?_ n _ ⟨i,rfl,cD _,rfl⟩ O;rintro b z ⟨s,rfl,C,a⟩ k;refine aR (λr=>?_) λr=>aa.some ?_
 ·obtain⟨q,rfl⟩: ∃q,s=q+1:=⟨s-1,O⟩
  have l:=bg (O:q<(bk p.parts).length);have w:=d _ _ l;have y:((q+1:Nat):Int)-1=(q:Int):=O
  rw[y];refine ag w (aR (λe=>aa.some ?_) λe=>?_)
  ·dsimp only at e;rw[a,y6,vS l,aW e]
  dsimp only at e;rw[bf O];exact k _ ⟨q,O,O,by rw[a,y6,vS l,aT e]⟩ O
 have:s=0:=O
 subst this;rw[a];rfl
theorem acG{f:cb->Int}{w:Int}:decide (w∈l.map f)=l.any (λx=>decide (f x=w)):=by
 rw[fD,decide_eq_true_eq,et,hV];constructor
 ·rintro⟨x,a,b⟩;exact⟨x,a,bp b⟩
 rintro⟨x,a,b⟩;exact⟨x,a,eQ b⟩
theorem K8(p:Prog)(l:List cb)(j q:Nat)(h:l.length-1-j=q):kj p l (j+1)=if(kj p l j).getD q false=true\/lM p l q=true then j0 ((kj p l j).set q true) (hn p l q) else kj p l j:=by subst h;rfl
theorem MO{y:Int}(h:(hn p l q)[k]? =some y): -1<=y/\y<(q:Int):=by
 unfold hn at h;rw[er] at h;cases a:(CD p l q)[k]? with
 |none=>rw[a] at h;cases h
 |some c=>rw[a] at h;cases h;exact OP p l c q
theorem Yx(u:7810000<=n)(G:bU p=true):Ct n (fr p)=some (jQ p (bk p.parts)):=by
 have v:=(eg G).2.2.2.2;have H: ∀x∈bk p.parts,f9 p x:=λx E=>gR E;have K:=fun(i:Nat) h=>Vo u G (i:=i) h;have a:(fr p).db.length=(bk p.parts).length:=by unfold fr;dsimp only;rw[dj]
 have s:(fr p).db=(bk p.parts).map (λx=>(cZ p x:Int)):=rfl;refine aa.eq ?_;unfold Ct;refine ag (G8 (n:=((fr p).list.length:Int)) (x:=false) (by show _/\((bk p.parts).length:Int)<=_;omega)) ?_;rw[show((fr p).list.length:Int)=((bk p.parts).length:Int) from rfl,cV,a,bf O];generalize Y:bk p.parts=l at*;refine aa.loop (λz:List Bool×Int=> ∃j:Nat,z.2=(l.length:Int)-1-j/\j<=l.length/\z.1=kj p l j) (λz=>(z.2+1).toNat) ?_ n _ ⟨0,Z,O,rfl⟩ Z;rintro L ⟨f,z⟩ ⟨j,m,hj,C⟩ I;dsimp only at m C⊢;refine aR (λM=>?_) λM=>aa.some ?_
 ·obtain⟨q,N⟩: ∃q,l.length-1-j=q:=⟨_,rfl⟩
  have Q:z=(q:Int):=O
  subst Q;have w:q<l.length:=O
  have R:f.length=l.length:=by rw[C,sl]
  have bE:=bg w;have r:=bg (O:q<f.length);have W:f.getD q false=f[q]:=by rw[ek,r];rfl
  have b:=K8 p l j q N;rw[<-C] at b;refine aa.aI (λz=>z=kj p l (j+1)) (λBQ A=>?_) λz m=>?_
  ·refine aa.aI (λz=>z= !decide (f.getD q false=true\/lM p l q=true)) (λQO c=>ag (a' r) ?_) λz m=>?_
   ·rw[W] at c;cases aV:f[q] with
    |true=>rw[aV] at c;exact bS (c _ a1)
    |false=>
     rw[aV] at c;have X:av (fr p).db (q:Int)=some (cZ p l[q]:Int):=by rw[s];exact a' (je bE)
     rw[bf O];refine bY (ag (gQ O O (by rw[a];omega)) (ag X (ag (DZ ?_ ?_ _) (c _ ?_))))
     ·rw[eX,cq,a];omega
     ·rw[eX,cq,a];omega
     rw[show(((l.length:Nat):Int)).toNat=l.length by omega,<-a,cT,show(((q:Int)+1)).toNat=q+1 by omega,s,<-List.map_drop,acG];unfold lM;rw[vS bE];cases (List.drop (q+1) l).any (λx=>decide ((cZ p x:Int)=(cZ p l[q]:Int)))<;>simp
   subst m;by_cases D:f.getD q false=true\/lM p l q=true
   ·rw[bp D];rw[aW D] at b;refine bS (ag (a' r) (ag (dS ⟨O,O⟩ true) (ag (K q w) ?_)));rw[cV];have P:(hn p l q).length<=12:=by unfold hn;rw[dj,zQ bE];exact q7 G H bE
    refine aa.loop (λz:List Bool×Int=> ∃k:Nat,z.2=k/\k<=(hn p l q).length/\z.1=j0 (f.set q true) ((hn p l q).take k)) (λz=>(hn p l q).length-z.2.toNat) ?_ n _ ⟨0,rfl,O,rfl⟩ Z;rintro F ⟨g,z⟩ ⟨k,m,hk,d⟩ t;dsimp only at m d⊢;subst m;refine aR (λS=>?_) λT=>A _ ?_
    ·have o:=bg (O:k<(hn p l q).length);have aV:=MO o;have U:g.length=l.length:=by rw[d,zU,fE,R]
     refine aa.aI (λz=>z=j0 (f.set q true) ((hn p l q).take (k+1))) (λai3 B=>ag (a' o) (aR (λe=>?_) λe=>B _ ?_)) λz m=>?_
     ·obtain⟨y,V,_⟩:=oC (l:=g) e O;refine ag V (ag (dS ⟨e,O⟩ true) (B _ ?_));rw[fw o,zk,aW e,d]
     ·rw[fw o,zk,aT e,d]
     subst m;rw[bf O];exact t _ ⟨k+1,Z,O,rfl⟩ Z
    have e:k=(hn p l q).length:=O
    rw[d,e,cT,b]
   rw[bs D];rw[aT D] at b;exact bY (A _ b.symm)
  subst m;rw[bf O];exact I _ ⟨j+1,Z,O,rfl⟩ Z
 have e:j=l.length:=O
 rw[C,e]
def rf(p:Prog)(l:List cb)(q k:Nat):Bool:= !((l.take k).drop (q+1)).any λx=>decide ((cZ p x:Int)=oe p l q)
theorem Vu(h:q<k)(a:l[k]? =some b):rf p l q (k+1)=(rf p l q k&& !decide ((cZ p b:Int)=oe p l q)):=by have c:=(bM.1 a).1;unfold rf;rw[fw a,Dh (by rw[cq];omega),sK];simp
theorem SA(cu:7810000<=n)(hp:g' p):Cf n p=some (if bU p=true then o9 (jQ p (bk p.parts)) else []):=by
 refine aa.eq ?_;unfold Cf;refine ag (jw O hp) ?_;cases M:bU p with
 |false=>exact aa.some rfl
 |true=>
  have BH:=(eg M).2.2.2.2;have S: ∀x∈bk p.parts,f9 p x:=λx hx=>gR hx;have T:(jO p).length=(bk p.parts).length:=by unfold jO;rw[dj]
  have r: ∀(i:Nat) x,(bk p.parts)[i]? =some x->av (jO p) (i:Int)=some ⟨rc p x,(cZ p x:Int)⟩:=λi x h=>a' (je h);have U:=fun(i:Nat) h=>Vx cu M (i:=i) h;refine bS (ag (y7 cu M) ?_);rw[T,aW rfl];generalize jO p=u at*;generalize um:bk p.parts=l at*;refine ag (G8 (n:=(l.length:Int)) (x:=false) O) ?_;rw[cV,bf O];refine aa.loop (λz:List Bool×Int=> ∃j:Nat,z.2=(l.length:Int)-1-j/\j<=l.length/\z.1=kj p l j) (λz=>(z.2+1).toNat) ?_ n _ ⟨0,Z,O,rfl⟩ Z;rintro C ⟨f,z⟩ ⟨j,a,hj,N⟩ bO;dsimp only at a N⊢;refine aR (λh0=>?_) λh0=>?_
  ·obtain⟨q,hq⟩: ∃q,l.length-1-j=q:=⟨_,rfl⟩
   have V:z=(q:Int):=O
   subst V;have Y:q<l.length:=O
   have afn:f.length=l.length:=by rw[N,sl]
   have bE:=bg Y;have D:=bg (O:q<f.length);have H:f.getD q false=f[q]:=by rw[ek,D];rfl
   have s:=K8 p l j q hq;rw[<-N] at s;have K: ∀y:Int,y=(q:Int)-1->aa (C (kj p l (j+1),y)) _:=λy hy=>bO _ ⟨j+1,Z,O,rfl⟩ Z;have fg:wr ((q:Int)+1)=((q+1:Nat):Int):=by rw[bf O];omega
   have w2:wr ((q:Int)-1)=(q:Int)-1:=bf O;rw[fg,w2];refine aa.loop (λz:Bool×Int=> ∃k:Nat,z.2=k/\q<k/\k<=l.length/\z.1=rf p l q k) (λz=>l.length-z.2.toNat) ?_ n _ ⟨q+1,rfl,O,O,?_⟩ Z
   ·rintro P ⟨b,z⟩ ⟨k,a,af0,hk,aV⟩ xz;dsimp only at a aV⊢;subst a;refine aR (λhlt=>?_) λiI=>?_
    ·have m:=bg (O:k<l.length);have L:=Vu (p:=p) af0 m;refine aa.aI (λz=>z=rf p l q (k+1)) (λQN A=>?_) λz a=>?_
     ·cases Q:b with
      |false=>exact bS (A _ (by rw[L,<-aV,Q];rfl))
      |true=>
       refine bY (ag (r _ _ m) (ag (r _ _ bE) (A _ ?_)));rw[L,<-aV,Q,vS bE];rfl
     subst a;rw[bf O];exact xz _ ⟨k+1,Z,O,O,rfl⟩ Z
    have e:k=l.length:=O
    have Ic:b=lM p l q:=by rw[aV,e];unfold rf lM;rw[cT]
    refine aa.aI (λz=>z=f.set q (f.getD q false||lM p l q)) (λagE c=>ag (a' D) ?_) λz a=>?_
    ·rw[H] at c;cases R:f[q] with
     |true=>
      rw[R] at c;refine bY (ag (dS ⟨O,O⟩ true) (c _ ?_));rw[cV];rfl
     |false=>
      rw[R] at c;refine bS (ag (dS ⟨O,O⟩ b) (c _ ?_));rw[cV,Ic];rfl
    subst a;have hrl:=q7 M S bE;by_cases G:f.getD q false=true\/lM p l q=true
    ·rw[aW G] at s;have F:(f.getD q false||lM p l q)=true:=by rcases G with h|h<;>rw[h]<;>simp
     rw[F];have af':(hn p l q).length=(rc p l[q]).length:=by unfold hn;rw[dj,zQ bE]
     refine aa.loop (λz:List Bool×Int=> ∃k:Nat,z.2=k/\k<=(rc p l[q]).length/\z.1=j0 (f.set q true) ((hn p l q).take k)) (λz=>(rc p l[q]).length-z.2.toNat) ?_ n _ ⟨0,rfl,O,rfl⟩ Z;rintro w ⟨g,z⟩ ⟨k,a,hk,o⟩ W;dsimp only at a o⊢;subst a;have aik:g.length=l.length:=by rw[o,zU,fE,afn]
     have X:=bg (O:q<g.length);have hgt:g[q]=true:=by
      have t:g.getD q false=true:=by
       rw[o,MJ (by rw[fE];omega),FZ,aW ⟨rfl,O⟩];exact .inl rfl
      rwa [ek,X] at t
     refine aa.aI (λz=>z=decide (k<(rc p l[q]).length)) (λIV d=>ag (r _ _ bE) (aR (λe=>ag (a' X) (d _ ?_)) λe=>d _ ?_)) λz a=>?_
     ·dsimp only at e;rw[hgt,bp O]
     ·dsimp only at e;rw[bs O]
     subst a;refine aR (λe=>?_) λe=>?_
     ·have v:=bg e;have m:(hn p l q)[k]? =some (ix p l (rc p l[q])[k] q):=by unfold hn;rw[zQ bE];exact je v
      have aV:=MO m;refine aa.aI (λz=>z=j0 (f.set q true) ((hn p l q).take (k+1))) (λai3 E=>ag (r _ _ bE) (ag (a' v) (ag (U q O _) (aR (λe=>?_) λe=>E _ ?_)))) λz a=>?_
      ·obtain⟨y,hy,_⟩:=oC (l:=g) e O;refine ag hy (ag (dS ⟨e,O⟩ true) (E _ ?_));rw[fw m,zk,aW e,o]
      ·rw[fw m,zk,aT e,o]
      subst a;rw[bf O];exact W _ ⟨k+1,Z,O,rfl⟩ Z
     have e2:k=(hn p l q).length:=O
     rw[o,e2,cT,<-s];exact K _ rfl
    rw[aT G] at s;have F:(f.getD q false||lM p l q)=false:=by
     cases t:f.getD q false with
     |true=>exact bt (.inl t) G
     |false=>
      cases h2:lM p l q with
      |true=>exact bt (.inr h2) G
      |false=>rfl
    have B:f[q]=false:=by
     rw[<-H];cases t:f.getD q false with
     |true=>exact bt (.inl t) G
     |false=>rfl
    have I:f.set q false=f:=by
     have h:=List.set_getElem_self (as:=f) (i:=q) O
     rwa [B] at h
    rw[F,I];refine aa.loop (λz:List Bool×Int=>z=(f,0)) (λ_=>0) ?_ n _ rfl O;rintro w z rfl W;dsimp only;refine aa.aI (λz=>z=false) (λIV d=>ag (r _ _ bE) (aa.cond (λ_=>ag (a' D) (d _ B)) λ_=>d _ rfl)) λz a=>?_;subst a;refine bS ?_;rw[<-s];exact K _ rfl
   dsimp only;unfold rf;rw[yB (by rw[cq];omega)];rfl
  have e:j=l.length:=O
  rw[N,e];exact ag (Kz (by rw[sl];omega) (by rw[sl];omega)) (aa.some rfl)
theorem FU(a:l.length<=120):(fR p l l.length).length<=15000:=by have b:=yV p l l.length;have c:l.length*l.length<=120*120:=nh a a;omega
def ki{R:Type}(p:R->R->Bool):List R->List R->Bool
 | [],[]=>true
 |a::as,b::c=>p a b&&ki p as c
 |_,_=>false
theorem EO{R:Type}{p:R->R->Bool}: ∀{a b:List R},ki p a b=true->a.length=b.length
 | [],[],_=>rfl
 |a::as,b::c,h=>by
  simp only[ki,Bool.and_eq_true] at h;simp[EO h.2]
 | [],b::c,h=>by cases h
 |a::as,[],h=>by cases h
theorem FN{f:R->R->Option Bool}{p:R->R->Bool}{a b:List R}(r: ∀x∈a,∀y∈b,f x y=some (p x y))(G:a.length<n)(H:a.length<=500000000):
  (bif !decide ((a.length:Int)=(b.length:Int)) then(some false) else(bc (λd (e:Int)=>bif decide (e<(a.length:Int)) then(Option.bind (av a e) λs=>Option.bind (av b e) λw=>Option.bind (f s w) λz=>bif !z then(some false) else(d (wr (e+1)))) else(some true)) n 0))=some (ki p a b):=by
 refine aa.eq (dZ (λh=>aa.some ?_) λh=>?_)
 ·cases c:ki p a b with
  |false=>rfl
  |true=>exact bt (by rw[EO c]) h
 refine aa.loop (λx:Int=> ∃i:Nat,x=i/\i<=a.length/\ki p (a.drop i) (b.drop i)=ki p a b) (λx=>a.length-x.toNat) ?_ n 0 ⟨0,rfl,O,rfl⟩ O;rintro k x ⟨i,rfl,K,c⟩ A;refine aR (λB=>?_) λC=>aa.some ?_
 ·have l:i<a.length:=O
  have m:i<b.length:=O
  have o:=bg l;have aV:=bg m;refine ag (a' o) (ag (a' aV) (ag (r _ (bC o) _ (bC aV)) ?_));rw[kn l,kn m] at c;simp only[ki] at c;cases q:p a[i] b[i] with
  |false=>rw[q] at c;exact bY (aa.some c)
  |true=>
   rw[q,eW] at c;refine bS ?_;rw[bf O];exact A _ ⟨i+1,O,O,c⟩ O
 have D:a.drop i=[]:=ko O;have F:b.drop i=[]:=ko O;rw[D,F] at c;exact c
theorem Ma{a b:List Int}(D:a.length<n)(F:a.length<=500000000):
  (bif !decide ((a.length:Int)=(b.length:Int)) then(some false) else(bc (λc (d:Int)=>bif decide (d<(a.length:Int)) then(Option.bind (av a d) λp=>Option.bind (av b d) λq=>bif !decide (p=q) then(some false) else(c (wr (d+1)))) else(some true)) n 0))=some (decide (a=b)):=by
 refine aa.eq (dZ (λh=>aa.some ?_) λh=>?_)
 ·exact(bs λe=>h (by rw[e])).symm
 refine aa.loop (λx:Int=> ∃i:Nat,x=i/\i<=a.length/\a.take i=b.take i) (λx=>a.length-x.toNat) ?_ n 0 ⟨0,rfl,O,rfl⟩ O;rintro k x ⟨i,rfl,G,l⟩ r;refine aR (λs=>?_) λw=>aa.some ?_
 ·have y:i<a.length:=O
  have z:i<b.length:=O
  have o:=bg y;have aV:=bg z;refine ag (a' o) (ag (a' aV) ?_);refine dZ (λm=>aa.some ?_) λA=>?_
  ·exact(bs λe=>m (by subst e;rfl)).symm
  rw[bf O];exact r _ ⟨i+1,O,O,by rw[fw o,fw aV,l,A]⟩ O
 have B:a.take i=a:=fG O;have C:b.take i=b:=fG O;rw[B,C] at l;exact(bp l).symm
theorem Tw{a b:List Int}(c:a.length<n)(d:a.length<=500000000):Df n a b=some (decide (a=b)):=by unfold Df;exact Ma c d
theorem KV{a b:List Int}(c:a.length<n)(d:a.length<=500000000):wa n a b=some (decide (a=b)):=by unfold wa;exact Ma c d
theorem Tl(k:5500000<=n){a b:az}(d:hG a):nI n a b=some (tR a b):=by unfold hG at d;unfold nI tR;have h:=Tw (n:=n) (a:=a.aU) (b:=b.aU) O O;refine aa.eq (aa.aI (λz=>z=(decide (a.aU=b.aU)&&decide (a.const=b.const))) (λj c=>ag h (aa.cond (λe=>c _ (by rw[e];rfl)) λe=>c _ (by rw[e];rfl))) λz i=>aa.some i)
theorem Ti(k:5500000<=n){a b:az}(d:hG a):x7 n a b=some (tR a b):=by unfold hG at d;unfold x7 tR;have h:=KV (n:=n) (a:=a.aU) (b:=b.aU) O O;refine aa.eq (aa.aI (λz=>z=(decide (a.aU=b.aU)&&decide (a.const=b.const))) (λj c=>aa.cond (λe=>ag h (c _ (by rw[e,Bool.and_true]))) λe=>c _ (by rw[e,iS])) λz i=>aa.some i)
theorem Es: ∀a b:List az,ki tR a b=pr a b
 | [],[]=>rfl
 |a::as,b::c=>by simp only[ki,pr,Es as c]
 | [],b::c=>rfl
 |a::as,[]=>rfl
theorem Kb(h:5500000<=n){a b:List az}(c:ju a):xm n a b (λd e=>nI n d e)=some (pr a b):=by unfold xm;rw[<-Es];exact FN (f:=λd e=>nI n d e) (λx i y _=>Tl h (c.2 x i)) (by have:=c.1;omega) (by have:=c.1;omega)
theorem J'(d:5500000<=n){a b:List az}(c:ju a):x6 n a b=some (pr a b):=by unfold x6;rw[<-Es];exact FN (f:=λe h=>x7 n e h) (λx i y _=>Ti d (c.2 x i)) (by have:=c.1;omega) (by have:=c.1;omega)
end Go.Lift
