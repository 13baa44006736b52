/- Tools. -/
import Derived.Test.YtlbojjldejlgaaaGreatVLiftLaw
set_option maxRecDepth 110000000
set_option linter.unusedVariables false
namespace Go.Lift
open Go
abbrev N:Nat:=110000000
section
def dot:List Int->List Int->Int
 |c::cs,x::xs=>c*x+dot cs xs
 |_,_=>0
def cM(m:Int)(x:Int):Prop:= -m<=x/\x<=m
variable {a:az}{b c x d aD v M:Int}{i k n:Nat}{p l:List Int}{R:Type}{A B:Option R}{o:List Loop}{s:List UInt8}{Q:R->Prop}
theorem u2{a:Int}(m:0<=a)(n:0<=b)(i:cM a c)(l:cM b x):cM (a*b) (c*x):=by
 obtain⟨o,p⟩:=i;obtain⟨q,r⟩:=l;constructor
 ·have h:=mm (O:0<=a+c) (O:0<=b+x);have k:=mm (O:0<=a-c) (O:0<=b-x);have d:(a+c)*(b+x)=a*b+a*x+c*b+c*x:=by rw[Int.add_mul,Int.mul_add,Int.mul_add];omega
  have e:(a-c)*(b-x)=a*b-a*x-c*b+c*x:=by rw[Int.sub_mul,Int.mul_sub,Int.mul_sub];omega
  rw[d] at h;rw[e] at k;omega
 have h:=mm (O:0<=a+c) (O:0<=b-x);have k:=mm (O:0<=a-c) (O:0<=b+x);have d:(a+c)*(b-x)=a*b-a*x+c*b-c*x:=by rw[Int.add_mul,Int.mul_sub,Int.mul_sub];omega
 have e:(a-c)*(b+x)=a*b+a*x-c*b-c*x:=by rw[Int.sub_mul,Int.mul_add,Int.mul_add];omega
 rw[d] at h;rw[e] at k;omega
theorem zf(a:List Int):dot a []=0:=by cases a<;>rfl
theorem EZ: ∀{cs a:List Int} {c x:Int},cs[a.length]? =some c->dot cs (a++[x])=dot cs a+c*x
 | [],a,c,x,h=>by simp at h
 |d::cs,[],c,x,h=>by simp at h;subst h;simp[dot,zf]
 |d::cs,y::a,c,x,h=>by
  have h:cs[a.length]? =some c:=by simpa using h
  simp only[List.cons_append,dot];rw[EZ h];omega
theorem EY{d e:List Int}(b:d[i]? =some c)(a:e[i]? =some x):dot d (e.take (i+1))=dot d (e.take i)+c*x:=by have aD:=(bt.1 a).1;rw[eF,a];exact EZ (by simpa[Nat.min_eq_left (Nat.le_of_lt aD)] using b)
theorem Ab{M:Int}(a:0<=M): ∀{cs xs:List Int},(∀c∈cs,cM 9 c)->(∀x∈xs,cM M x)->cM (9*M*xs.length) (dot cs xs)
 | [],xs,_,_=>by
  have:0<=9*M*(xs.length:Int):=mm O O;simp only[dot,cM];omega
 |d::cs,[],_,_=>by simp[dot,cM]
 |d::cs,y::xs,b,i=>by
  have k:=Ab a (cs:=cs) (xs:=xs) (λc h=>b c (by simp[h])) λx h=>i x (by simp[h]);have l:=u2 O a (b d aV) (i y aV);have e:9*M*((y::xs).length:Int)=9*M*(xs.length:Int)+9*M:=by simp[Int.mul_add]
  rw[e];simp only[dot,cM] at*;omega
def cZ(a b:Int):List Int:=(List.range (b-a).toNat).map (fun(i:Nat)=>a+(i:Int))
theorem Rk{a:Int}:v∈cZ a aD↔a<=v/\v<aD:=by
 simp only[cZ,List.mem_map,List.mem_range];constructor
 ·rintro⟨i,aD,rfl⟩;omega
 intro h;exact⟨(v-a).toNat,O,O⟩
theorem jr{a:Int}(h:b<=a):cZ a b=[]:=by unfold cZ;rw[show(b-a).toNat=0 by omega];rfl
theorem oZ{a:Int}(h:b<=a):cZ b (a+1)=cZ b a++[a]:=by unfold cZ;rw[show(a+1-b).toNat=(a-b).toNat+1 by omega,pj,jC];simp;omega
theorem xo{a:Int}(b:a<=v)(c:v<aD):cZ a aD=cZ a v++v::cZ (v+1) aD:=by
 obtain⟨k,d⟩: ∃k:Nat,aD=v+1+k:=⟨(aD-v-1).toNat,O⟩
 subst d;clear c;induction k with
 |zero=>
  rw[show v+1+((0:Nat):Int)=v+1 by omega,oZ b,jr (fZ _)]
 |succ k e=>
  rw[show v+1+((k+1:Nat):Int)=v+1+(k:Int)+1 by omega,oZ O,e,oZ O];simp
theorem uE{k:Type}{f:k->Option Bool}{p:k->Bool}{l:List k}(v: ∀x∈l,f x=some (p x))(F:l.length<n)(w:l.length<=500000000):
  ∃r:Int,ba (λa (b:Int)=>bif decide (b<(l.length:Int)) then(Option.bind (aH l b) λd=>Option.bind (f d) λe=>bif e then(some b) else(a (wr (b+1)))) else(some (-1))) n 0=some r/\decide (0<=r)=l.any p:=by
 suffices h:ah (ba (λa (b:Int)=>bif decide (b<(l.length:Int)) then(Option.bind (aH l b) λd=>Option.bind (f d) λe=>bif e then(some b) else(a (wr (b+1)))) else(some (-1))) n 0) (λr=>decide (0<=r)=l.any p) by exact h
 refine ah.loop (λx:Int=>0<=x/\x<=l.length/\(l.take x.toNat).any p=false) (λx:Int=>l.length-x.toNat) ?_ n 0 ⟨O,O,aV⟩ b1;rintro i x ⟨s,G,m⟩ z;refine bc (λo=>?_) λA=>?_
 ·obtain⟨y,B,c⟩:=rS s o;have hm:=bA c;refine ai B (ai (v y hm) (ah.cond (λC=>ah.some ?_) λq=>?_))
  ·rw[show l.any p=true from q'.2 ⟨y,hm,C⟩];simp[s]
  rw[a' O];refine z _ ⟨O,O,?_⟩ O;rw[show(x+1).toNat=x.toNat+1 by omega,eF,c];simp[m,q]
 refine ah.some ?_;have D:x.toNat=l.length:=O
 rw[D,dA] at m;rw[m];simp
theorem B1{f:Int->Option Bool}{p:Int->Bool}(b: ∀x∈l,f x=some (p x))(c:l.length<n)(a:l.length<=500000000):lP n l f=some (l.any p):=by obtain⟨r,d,e⟩:=uE b c a;unfold lP si;rw[d,<-e];rfl
theorem BI{f:az->Option Bool}{p:az->Bool}{l:List az}(b: ∀x∈l,f x=some (p x))(c:l.length<n)(a:l.length<=500000000):oj n l f=some (l.any p):=by obtain⟨r,d,e⟩:=uE b c a;unfold oj f5;rw[d,<-e];rfl
theorem KO{f:Stmt->Option Bool}{p:Stmt->Bool}{l:List Stmt}(b: ∀x∈l,f x=some (p x))(c:l.length<n)(a:l.length<=500000000):vx n l f=some (l.any p):=by obtain⟨r,d,e⟩:=uE b c a;unfold vx BC;rw[d,<-e];rfl
theorem Kh{f:bR->Option Bool}{p:bR->Bool}{l:List bR}(b: ∀x∈l,f x=some (p x))(c:l.length<n)(a:l.length<=500000000):vp n l f=some (l.any p):=by obtain⟨r,d,e⟩:=uE b c a;unfold vp Bw;rw[d,<-e];rfl
theorem ma{k:Type}{l:List k}{p:Nat->k->Bool}{Q:Bool->Prop}{m:(Int->Option Bool)->Int->Option Bool}(B:l.length<n)(z:l.length<=500000000)
  (b: ∀a (i:Nat) x,l[i]? =some x->(p i x=true->ah (a ((i:Int)+1)) Q)->(p i x=false->Q false)->ah (m a (i:Int)) Q)
  (d: ∀a,(∀(i:Nat) x,l[i]? =some x->p i x=true)->ah (m a (l.length:Int)) Q) (e:(∃(i:Nat) (x:k),l[i]? =some x/\p i x=false)->Q false):ah (ba m n 0) Q:=by
 refine ah.loop (λx:Int=> ∃i:Nat,x=i/\i<=l.length/\ ∀(j:Nat) y,j<i->l[j]? =some y->p j y=true) (λx:Int=>l.length-x.toNat) ?_ n 0 ⟨0,rfl,O,λj y h=>O⟩ b1;rintro a x ⟨i,rfl,C,w⟩ A;by_cases o:i<l.length
 ·have q:=bh o;refine b a i _ q (λr=>A _ ⟨i+1,O,O,λj y D c=>?_⟩ O) λr=>e ⟨i,_,q,r⟩;by_cases s:j=i
  ·subst s;rw[q] at c;cases c;exact r
  exact w j y O c
 have v:i=l.length:=O
 subst v;exact d a λj y c=>w j y (bt.1 c).1 c
def cU(a:az):Bool:=decide (a.ak.length=4)&&(decide (-99<=a.const/\a.const<=99)&&a.ak.all λc=>decide (-9<=c/\c<=9))
theorem jt(h:cU a=true):a.ak.length=4/\cM 99 a.const/\ ∀c∈a.ak,cM 9 c:=by simp only[cU,Bool.and_eq_true,decide_eq_true_eq,List.all_eq_true] at h;exact⟨h.1,h.2.1,h.2.2⟩
theorem jT(n:Nat)(x a b:Int):fL n x a b=some (decide (a<=x/\x<=b)):=by unfold fL;by_cases c:a<=x<;>by_cases d:x<=b<;>simp[aY,c,d]
theorem Im(i:5500000<=n)(a:az)(k:a.ak.length<=1100000):qn n a=some (cU a):=by
 have h: ∀x∈a.ak,sj n x=some (!decide (-9<=x/\x<=9)):=λx _=>by unfold sj;rw[jT];rfl
 have bl:=B1 (n:=n) h O O;unfold qn yu;rw[jT];simp only[aY,Option.bind];rw[bl];unfold cU;have e:(a.ak.any λx=> !decide (-9<=x/\x<=9))= !(a.ak.all λc=>decide (-9<=c/\c<=9)):=by
  rw[pe];simp
 rw[e];by_cases d:a.ak.length=4
 ·rw[bN (show(a.ak.length:Int)=4 by omega),bN d];generalize decide (-99<=a.const/\a.const<=99)=b;cases b<;>simp
 rw[bs (show¬(a.ak.length:Int)=4 by omega),bs d];rfl
theorem B9(n:Nat)(x m:Int)(c:0<=m/\m<=1000000000):qE n x m=some (decide (-m<=x/\x<=m)):=by
 unfold qE;rw[a' O];by_cases a: -m<=x<;>by_cases b:x<=m
 ·simp[aY,a,b]
 ·simp[aY,a,b]
 ·simp[aY,a,b]
 simp[aY,a,b]
theorem BB(w:5500000<=n)(a:az)(y:a.ak.length<=1100000):qk n a=some (cU a):=by
 refine ah.eq ?_;unfold qk;refine ma (l:=a.ak) (p:=λ_ c=>decide (-9<=c/\c<=9)) O O (λb i x d o q=>?_) (λb k=>?_) (λ⟨i,x,d,m⟩=>?_)
 ·rw[bN (show(i:Int)<(a.ak.length:Int) by have:=(bt.1 d).1;omega)];refine ai (bI d) (ai (B9 n x 9 O) ?_);have aD:=(bt.1 d).1;cases m:decide (-9<=x/\x<=9) with
  |true=>show ah (b _) _;rw[a' O];exact o m
  |false=>exact ah.some (q m)
 ·rw[bs (show¬(a.ak.length:Int)<(a.ak.length:Int) by omega)];have e:a.ak.all (λc=>decide (-9<=c/\c<=9))=true:=gv.2 λc s=>by obtain⟨i,aD⟩:=iw s;exact k i c aD
  refine ah.cond (λh=>(by cases h)) λ_=>?_;unfold cU;rw[e];refine ah.aY (λz:Bool=>z=(decide (a.ak.length=4)&&(decide (-99<=a.const/\a.const<=99)&&true))) (λj r=>?_) λz v=>ah.some v;refine bc (λh=>ai (B9 n a.const 99 O) (r _ ?_)) λh=>r _ ?_
  ·rw[bN (O:a.ak.length=4)];simp
  rw[bs (show¬a.ak.length=4 by omega)];rfl
 unfold cU;have e:a.ak.all (λc=>decide (-9<=c/\c<=9))=false:=ha.2 ⟨x,bA d,by rw[m];simp⟩;rw[e];simp
def eL(a:az)(p:List Int):Int:=a.const+dot a.ak p
def wE(M:Int)(p:List Int):Prop:= ∀x∈p,cM M x
theorem xz(b:cU a=true)(k:p.length<=4)(c:0<=M/\M<=1000000000)(d:wE M p)(i:Nat)(l:i<=p.length):cM 1000000000000 (a.const+dot a.ak (p.take i)):=by
 obtain⟨m,n,e⟩:=jt b;have o:=Ab (M:=M) c.1 (cs:=a.ak) (xs:=p.take i) e λx h=>d x (hA h);have q:(p.take i).length<=4:=b1
 have r:9*M*((p.take i).length:Int)<=9*M*4:=Int.mul_le_mul_of_nonneg_left O O;simp only[cM] at*;omega
theorem OE(C:5500000<=n)(e:cU a=true)(q:p.length<=4)(h:0<=M/\M<=1000000000)(l:wE M p):k2 n a p=some (eL a p):=by
 obtain⟨D,F,v⟩:=jt e;refine ah.eq ?_;unfold k2;refine ah.loop (λx:Int×Int=> ∃i:Nat,x.2=i/\i<=p.length/\x.1=a.const+dot a.ak (p.take i)) (λx=>p.length-x.2.toNat) ?_ n _ ⟨0,rfl,O,by simp[zf]⟩ b1;rintro m ⟨x,k⟩ ⟨i,r,w,o⟩ y;dsimp only at r o⊢;subst r;refine bc (λd=>?_) λz=>ah.some ?_
 ·have d:i<p.length:=O
  have b:=bh d;have c:=bh (O:i<a.ak.length);have cA:=EY c b;have A:=xz e q h l i w;have s:=xz e q h l (i+1) O;rw[cA] at s;have B:=u2 O h.1 (v _ (bA c)) (l _ (bA b));refine ai (bI b) (ai (bI c) ?_);simp only[cM] at A s B;rw[a' (n:=a.ak[i]*p[i]) O,a' O,a' O];refine y _ ⟨i+1,Z,O,?_⟩ Z;dsimp only;rw[cA,o];omega
 have:i=p.length:=O
 rw[o,this,dA];rfl
theorem OZ(H:5500000<=n)(d:cU a=true)(r:p.length<=4)(e:0<=M/\M<=1000000000)(l:wE M p):lg n a p=some (eL a p):=by
 obtain⟨K,L,y⟩:=jt d;refine ah.eq ?_;unfold lg;refine ah.loop (λx:Int×Int=> ∃i:Nat,x.2=i/\i<=p.length/\x.1=a.const+dot a.ak (p.take i)) (λx=>p.length-x.2.toNat) ?_ n _ ⟨0,rfl,O,by simp[zf]⟩ b1;rintro m ⟨x,k⟩ ⟨i,s,A,o⟩ B;dsimp only at s o⊢;subst s;refine ah.aY (λz=>z=decide (i<p.length)) (λj v=>bc (λh=>v _ ?_) λh=>v _ ?_) λz C=>?_
 ·rw[bN (O:i<p.length),bN (show(i:Int)<(a.ak.length:Int) by omega)]
 ·rw[bs (show¬i<p.length by omega)]
 subst C;refine bc (λq=>?_) λD=>ah.some ?_
 ·have b:=bh q;have c:=bh (O:i<a.ak.length);have cA:=EY c b;have F:=xz d r e l i A;have w:=xz d r e l (i+1) O;rw[cA] at w;have G:=u2 O e.1 (y _ (bA c)) (l _ (bA b));refine ai (bI c) (ai (bI b) ?_);simp only[cM] at F w G;rw[a' (n:=a.ak[i]*p[i]) O,a' O,a' O];refine B _ ⟨i+1,Z,O,?_⟩ Z;dsimp only;rw[cA,o];omega
 have:i=p.length:=O
 rw[o,this,dA];rfl
theorem dt(h:ah A Q):ah (bif true then A else B) Q:=h
theorem cj(h:ah B Q):ah (bif false then A else B) Q:=h
def fj:List Int->Nat
 | []=>0
 |c::cs=>if fj cs=0 then(if c=0 then 0 else 1) else fj cs+1
theorem Dc: ∀(l:List Int) (c:Int),fj (l++[c])=if c=0 then fj l else l.length+1
 | [],c=>by simp[fj]
 |d::l,c=>by
  have b:=Dc l c;simp only[List.cons_append,fj,b];by_cases a:c=0
  ·simp[a]
  simp[a]
theorem Db(h:l[i]? =some c):fj (l.take (i+1))=if c=0 then fj (l.take i) else i+1:=by have aD:=(bt.1 h).1;rw[eF,h];show fj (l.take i++[c])=_;rw[Dc,dP,Nat.min_eq_left (Nat.le_of_lt aD)]
def ku(a:az):Prop:=a.ak.length<=1100000
def ja(l:List az):Prop:=l.length<=1100000/\ ∀a∈l,ku a
theorem wK(r:5500000<=n)(h:ku a):l3 n a=some (fj a.ak:Int):=by
 have h:a.ak.length<=1100000:=h;refine ah.eq ?_;unfold l3;refine ah.loop (λx:Int×Int=> ∃i:Nat,x.2=i/\i<=a.ak.length/\x.1=(fj (a.ak.take i):Int)) (λx=>a.ak.length-x.2.toNat) ?_ n _ ⟨0,rfl,O,by simp[fj]⟩ b1;rintro c ⟨x,k⟩ ⟨i,l,s,d⟩ o;dsimp only at l d⊢;subst l;refine bc (λb=>?_) λp=>ah.some ?_
 ·have b:i<a.ak.length:=O
  have bl:=bh b;have cA:=Db bl;refine ah.aY (λz:Int=>z=(fj (a.ak.take (i+1)):Int)) (λj m=>ai (bI bl) (dD (λe=>m _ ?_) λe=>m _ ?_)) λz q=>?_
  ·rw[cA,br e,a' O];omega
  ·rw[cA,bn e,d]
  rw[a' O];exact o _ ⟨i+1,Z,O,q⟩ Z
 have:i=a.ak.length:=O
 rw[d,this,dA]
theorem CB(q:5500000<=n)(o:ku a):ot n a=some (fj a.ak:Int):=by
 have o:a.ak.length<=1100000:=o;refine ah.eq ?_;unfold ot;refine ah.loop (λx:Int=> ∃i:Nat,x=i/\i<=a.ak.length/\fj a.ak=fj (a.ak.take i)) (λx=>x.toNat) ?_ n _ ⟨a.ak.length,rfl,O,by rw[dA]⟩ b1;rintro b x ⟨i,rfl,r,c⟩ p;cases i with
 |zero=>
  refine ah.aY (λz=>z=false) (λj d=>bc (λh=>a7 h (by decide)) λh=>d _ rfl) λz k=>?_;subst k;exact ah.some (by rw[c];rfl)
 |succ i=>
  have l:i<a.ak.length:=O
  have bl:=bh l;have cA:=Db bl;have e:wr (((i+1:Nat):Int)-1)=(i:Int):=by rw[a' O];omega
  rw[e];refine ah.aY (λz=>z=decide (a.ak[i]=0)) (λj d=>bc (λh=>ai (bI bl) (d _ rfl)) λh=>a7 (show(0:Int)<((i+1:Nat):Int) by omega) h) λz k=>?_;subst k;refine bc (λm=>?_) λm=>ah.some ?_
  ·exact p _ ⟨i,rfl,O,by rw[c,cA,bn m]⟩ O
  rw[c,cA,br m]
def et(a:az)(d:Int):Bool:=cU a&&decide ((fj a.ak:Int)<=d)
def ew(l:List az)(d:Int):Bool:=l.all (λa=>et a d)&&decide (1<=l.length/\l.length<=2)
theorem vX(a b:Int):decide (a<b)= !decide (b<=a):=by
 by_cases h:a<b
 ·rw[bN h,bs O];rfl
 rw[bs h,bN O];rfl
theorem C7(v:5500000<=n){l:List az}(A:ja l)(d:Int):tJ n l d=some (ew l d):=by
 obtain⟨F,B⟩:=A;refine ah.eq ?_;unfold tJ;refine ma (l:=l) (p:=λ_ a=>et a d) O O (λb i x k q r=>?_) (λb m=>?_) (λ⟨i,x,k,C⟩=>?_)
 ·have aD:=(bt.1 k).1;have hm:=B x (bA k);rw[bN (show(i:Int)<(l.length:Int) by omega)];refine dt (ah.aY (λz=>z= !et x d) (λj o=>ai (bI k) (ai (BB v x hm) ?_)) λz s=>?_)
  ·cases w:cU x with
   |false=>exact o _ (by unfold et;rw[w];rfl)
   |true=>exact ai (wK v hm) (o _ (by unfold et;rw[w,vX];simp))
  subst s;cases y:et x d with
  |true=>show ah (b _) _;rw[a' O];exact q y
  |false=>exact ah.some (r y)
 ·rw[bs (show¬(l.length:Int)<(l.length:Int) by omega)];have e:l.all (λa=>et a d)=true:=gv.2 λc D=>by obtain⟨i,aD⟩:=iw D;exact m i c aD
  unfold ew;rw[e];refine cj (ah.aY (λz=>z=decide (1<=l.length/\l.length<=2)) (λj o=>bc (λh=>o _ ?_) λh=>o _ ?_) λz s=>ah.some (by rw[s];rfl))
  ·by_cases G:l.length<=2
   ·rw[bN (show(l.length:Int)<=2 by omega),bN O]
   rw[bs (show¬(l.length:Int)<=2 by omega),bs O]
  rw[bs O]
 unfold ew;rw[ha.2 ⟨x,bA k,by rw[C];simp⟩];rfl
theorem Dy(b:5500000<=n)(c:ku a)(d:Int):qw n a d=some (!et a d):=by
 unfold qw;rw[Im b a c];simp only[aY,Option.bind];cases e:cU a with
 |false=>simp[et,e]
 |true=>
  rw[CB b c];simp only[et,e,Bool.not_true,cond_false,Bool.true_and];rw[vX]
theorem BV(n k:Nat):fL n (k:Int) 1 2=some (decide (1<=k/\k<=2)):=by
 rw[jT];congr 1;by_cases h:1<=k/\k<=2
 ·rw[bN h,bN O]
 rw[bs h,bs O]
theorem JO(b:5500000<=n){l:List az}(c:ja l)(d:Int):tf n l d=some (ew l d):=by
 obtain⟨m,h⟩:=c;unfold tf;rw[BV];have bl:=BI (n:=n) (f:=λi=>qw n i d) (p:=λa=> !et a d) (l:=l) (λx k=>Dy b (h x k) d) O O;simp only[aY,Option.bind];rw[bl];unfold ew;have e:(l.any λa=> !et a d)= !(l.all λa=>et a d):=by
  rw[pe];simp
 rw[e];cases decide (1<=l.length/\l.length<=2)<;>simp
def pA{k:Type}(p:Nat->k->Bool)(l:List k):Bool:=l.zipIdx.all λq=>p q.2 q.1
theorem wy{k:Type}{p:Nat->k->Bool}{l:List k}(h: ∀(i:Nat) x,l[i]? =some x->p i x=true):pA p l=true:=
 gv.2 λq a=>h q.2 q.1 (xe.1 a)
theorem m7{k:Type}{p:Nat->k->Bool}{l:List k}{x:k}(h:l[i]? =some x)(a:p i x=false):pA p l=false:=
 ha.2 ⟨(x,i),xe.2 h,by rw[a];simp⟩
theorem Cy{k:Type}{p:Nat->k->Bool}{l:List k}(h:pA p l=true){x:k}(a:l[i]? =some x):p i x=true:=
 gv.1 h (x,i) (xe.2 a)
def iL(a:List Loop):Bool:=pA (λi l=>ew l.bg (i:Int)&&ew l.aD (i:Int)) a&&decide (a.length<=4)
def pF(a:List Loop):Prop:=a.length<=1100000/\ ∀l∈a,ja l.bg/\ja l.aD
theorem Kt(k:5500000<=n)(h:pF o):wB n o=some (iL o):=by
 obtain⟨B,s⟩:=h;refine ah.eq ?_;unfold wB;refine ma (l:=o) (p:=λi l=>ew l.bg (i:Int)&&ew l.aD (i:Int)) O O (λa i x b d e=>?_) (λa c=>?_) (λ⟨i,x,b,v⟩=>?_)
 ·have aD:=(bt.1 b).1;obtain⟨w,y⟩:=s x (bA b);rw[bN (show(i:Int)<(o.length:Int) by omega)];refine ai (bI b) (ah.aY (λz=>z= !(ew x.bg (i:Int)&&ew x.aD (i:Int))) (λj m=>ai (JO k w _) ?_) λz A=>?_)
  ·cases q:ew x.bg (i:Int) with
   |false=>exact m _ (by rw[q];rfl)
   |true=>exact ai (JO k y _) (m _ (by rw[q];rfl))
  subst A;cases r:(ew x.bg (i:Int)&&ew x.aD (i:Int)) with
  |true=>show ah (a _) _;rw[a' O];exact d r
  |false=>exact ah.some (e r)
 ·rw[bs (show¬(o.length:Int)<(o.length:Int) by omega)];refine ah.some ?_;unfold iL;rw[wy c,hB];exact decide_eq_decide.2 O
 unfold iL;rw[m7 b v];rfl
theorem Kq(r:5500000<=n)(h:pF o):wq n o=some (iL o):=by
 obtain⟨D,y⟩:=h;unfold wq;by_cases s:o.length<=4
 ·rw[bN (show(o.length:Int)<=4 by omega)];refine ah.eq ?_;refine ma (l:=o) (p:=λi l=>ew l.bg (i:Int)&&ew l.aD (i:Int)) O O (λa i x c m q=>?_) (λa d=>?_) (λ⟨i,x,c,A⟩=>?_)
  ·have aD:=(bt.1 c).1;obtain⟨B,C⟩:=y x (bA c);rw[bN (show(i:Int)<(o.length:Int) by omega)];refine ah.aY (λz=>z=true) (λj b=>dt (b _ rfl)) λz e=>?_;subst e;refine dt (ah.aY (λz=>z= !(ew x.bg (i:Int)&&ew x.aD (i:Int))) (λj b=>ai (bI c) (ai (C7 r B _) ?_)) λz e=>?_)
   ·cases v:ew x.bg (i:Int) with
    |false=>exact b _ (by rw[v];rfl)
    |true=>exact ai (C7 r C _) (b _ (by rw[v];rfl))
   subst e;cases w:(ew x.bg (i:Int)&&ew x.aD (i:Int)) with
   |true=>show ah (a _) _;rw[a' O];exact m w
   |false=>exact ah.some (q w)
  ·rw[bs (show¬(o.length:Int)<(o.length:Int) by omega)];refine ah.aY (λz=>z=false) (λj b=>cj (b _ rfl)) λz e=>?_;subst e;refine ah.some ?_;unfold iL;rw[wy d,bN s];rfl
  unfold iL;rw[m7 c A];rfl
 obtain⟨k,rfl⟩: ∃k,n=k+1:=⟨n-1,O⟩
 rw[bs (show¬(o.length:Int)<=4 by omega)];unfold iL;rw[bs s,kT];simp only[ba,aY];cases decide ((0:Int)<(o.length:Int))<;>rfl
def kb:List Int->Int
 | []=>0
 |x::a=>a.foldl max x
def lq:List Int->Int
 | []=>0
 |x::a=>a.foldl min x
theorem QW(h:l≠[])(x:Int):kb (l++[x])=max (kb l) x:=by
 cases l with
 |nil=>exact a7 rfl h
 |cons a l=>simp[kb,List.foldl_append]
theorem QX(h:l≠[])(x:Int):lq (l++[x])=min (lq l) x:=by
 cases l with
 |nil=>exact a7 rfl h
 |cons a l=>simp[lq,List.foldl_append]
theorem GD: ∀(l:List Int) (a:Int),a<=l.foldl max a
 | [],a=>fZ _
 |x::l,a=>Int.le_trans (Int.le_max_left a x) (GD l (max a x))
theorem GF: ∀(l:List Int) (a:Int),l.foldl min a<=a
 | [],a=>fZ _
 |x::l,a=>Int.le_trans (GF l (min a x)) (Int.min_le_left a x)
def jh(l:List az)(p:List Int):List Int:=l.map λa=>eL a p
def c6(l:Loop)(p:List Int):Int:=kb (jh l.bg p)
def dJ(l:Loop)(p:List Int):Int:=lq (jh l.aD p)
def fV(k:Nat)(p:List Int):Prop:=p.length=k/\k<=4/\wE (100*40^k) p
theorem nX(h:k<=4):(0:Int)<=100*40^k/\(100:Int)*40^k<=1000000000:=by
 match k,h with
 |0,_=>decide
 |1,_=>decide
 |2,_=>decide
 |3,_=>decide
 |4,_=>decide
theorem nv{l:List az}(h:ew l d=true):1<=l.length/\l.length<=2/\ ∀a∈l,cU a=true:=by
 simp only[ew,Bool.and_eq_true,decide_eq_true_eq,List.all_eq_true] at h;refine⟨h.2.1,h.2.2,λa b=>?_⟩
 have:=h.1 a b;simp only[et,Bool.and_eq_true] at this;exact this.1
theorem FU(b:cU a=true)(c:fV k p)(d:k<=3): -(40*(100*40^k))<=eL a p/\eL a p<=40*(100*40^k):=by
 obtain⟨m,n,e⟩:=jt b;obtain⟨o,q,h⟩:=c;obtain⟨i,r⟩:=nX (k:=k) O;have s:(100:Int)<=100*40^k:=by
  match k,d with
  |0,_=>decide
  |1,_=>decide
  |2,_=>decide
  |3,_=>decide
 generalize (100*40^k:Int)=M at*;have v:=Ab (M:=M) i (cs:=a.ak) (xs:=p) e λx l=>h x l;have w:9*M*(p.length:Int)<=9*M*3:=Int.mul_le_mul_of_nonneg_left O O;simp only[cM] at*;unfold eL;omega
theorem r2(c:5500000<=n)(d:cU a=true)(b:fV k p):lg n a p=some (eL a p):=
 OZ c d (by have:=b.1;have:=b.2.1;omega) (nX b.2.1) b.2.2
theorem rZ(c:5500000<=n)(d:cU a=true)(b:fV k p):k2 n a p=some (eL a p):=
 OE c d (by have:=b.1;have:=b.2.1;omega) (nX b.2.1) b.2.2
theorem lk{l:List az}(h:l[i]? =some a):(jh l p)[i]? =some (eL a p):=by unfold jh;rw[List.getElem?_map,h];rfl
theorem uB(l:List az)(p:List Int):(jh l p).length=l.length:=dL ..
theorem FA{k:Type}{l:List k}(h:1<=i)(a:1<=l.length):l.take i≠[]:=by
 intro e
 have:(l.take i).length=0:=by rw[e];rfl
 rw[dP] at this;omega
theorem Fe(h:l[i]? =some x)(a:1<=i):kb (l.take (i+1))=max (kb (l.take i)) x:=by have:=(bt.1 h).1;rw[eF,h];exact QW (FA a O) x
theorem Fg(h:l[i]? =some x)(a:1<=i):lq (l.take (i+1))=min (lq (l.take i)) x:=by have:=(bt.1 h).1;rw[eF,h];exact QX (FA a O) x
theorem zA(h:l[0]? =some x):kb (l.take 1)=x:=by
 cases l with
 |nil=>simp at h
 |cons a l=>simp at h;subst h;rfl
theorem zB(h:l[0]? =some x):lq (l.take 1)=x:=by
 cases l with
 |nil=>simp at h
 |cons a l=>simp at h;subst h;rfl
theorem Dp(q:5500000<=n){l:Loop}{a:Int}(L:ew l.bg d=true)(Q:ew l.aD a=true)(r:fV k p):tq n l p=some (c6 l p,dJ l p):=by
 obtain⟨ay,a2,a3⟩:=nv L;obtain⟨X,f,K⟩:=nv Q;have A:=bh (O:0<l.bg.length);have B:=bh (O:0<l.aD.length);refine ah.eq ?_;unfold tq;refine ai (bI (i:=0) A) (ai (r2 q (a3 _ (bA A)) r) (ai (bI (i:=0) B) (ai (r2 q (K _ (bA B)) r) ?_)));refine ah.loop (λx:Int×Int=> ∃i:Nat,x.2=i/\1<=i/\i<=l.bg.length/\x.1=kb ((jh l.bg p).take i)) (λx=>l.bg.length-x.2.toNat) ?_ n _ ⟨1,rfl,O,O,(zA (lk A)).symm⟩ Z;rintro C ⟨x,z⟩ ⟨i,b,c,R,s⟩ W;dsimp only at b s⊢;subst b;refine bc (λD=>?_) λF=>?_
 ·have g:=bh (O:i<l.bg.length);have e:=Fe (lk (p:=p) g) c;refine ah.aY (λz=>z=kb ((jh l.bg p).take (i+1))) (λj o=>ai (bI g) (ai (r2 q (a3 _ (bA g)) r) (bc (λh=>o _ ?_) λh=>o _ ?_))) λz b=>?_
  ·rw[e,<-s];omega
  ·rw[e,<-s];omega
  rw[a' O];exact W _ ⟨i+1,Z,O,O,b⟩ Z
 have m:i=l.bg.length:=O
 have G:x=c6 l p:=by rw[s,m,<-uB l.bg p,dA];rfl
 refine ah.loop (λx:Int×Int=> ∃i:Nat,x.2=i/\1<=i/\i<=l.aD.length/\x.1=lq ((jh l.aD p).take i)) (λx=>l.aD.length-x.2.toNat) ?_ n _ ⟨1,rfl,O,O,(zB (lk B)).symm⟩ Z;rintro v ⟨y,z⟩ ⟨i,b,c,R,w⟩ H;dsimp only at b w⊢;subst b;refine bc (λD=>?_) λF=>ah.some ?_
 ·have g:=bh (O:i<l.aD.length);have e:=Fg (lk (p:=p) g) c;refine ah.aY (λz=>z=lq ((jh l.aD p).take (i+1))) (λj o=>ai (bI g) (ai (r2 q (K _ (bA g)) r) (bc (λh=>o _ ?_) λh=>o _ ?_))) λz b=>?_
  ·rw[e,<-w];omega
  ·rw[e,<-w];omega
  rw[a' O];exact H _ ⟨i+1,Z,O,O,b⟩ Z
 have m:i=l.aD.length:=O
 rw[G,w,m,<-uB l.aD p,dA];rfl
theorem OA(e:5500000<=n){l:Loop}{a:Int}(F:ew l.bg d=true)(G:ew l.aD a=true)(h:fV k p):wC n l p=some (c6 l p,dJ l p):=by
 obtain⟨ay,a2,a3⟩:=nv F;obtain⟨L,Q,D⟩:=nv G;have r:=bh (O:0<l.bg.length);have s:=bh (O:0<l.aD.length);refine ah.eq ?_;unfold wC;refine ai (bI (i:=0) r) (ai (rZ e (a3 _ (bA r)) h) (ai (bI (i:=0) s) (ai (rZ e (D _ (bA s)) h) ?_)));refine ah.loop (λx:Int×Int=> ∃i:Nat,x.2=i/\i<=l.bg.length/\x.1=kb ((jh l.bg p).take (max i 1))) (λx=>l.bg.length-x.2.toNat) ?_ n _ ⟨0,rfl,O,(zA (lk r)).symm⟩ Z;rintro v ⟨x,z⟩ ⟨i,c,H,m⟩ K;dsimp only at c m⊢;subst c;refine bc (λw=>?_) λA=>?_
 ·have g:=bh (O:i<l.bg.length);refine ai (bI g) (ai (rZ e (a3 _ (bA g)) h) ?_);rw[a' O];refine K _ ⟨i+1,Z,O,?_⟩ Z;dsimp only;rw[show max (i+1) 1=i+1 by omega];cases i with
  |zero=>rw[m,show max 0 1=1 by rfl,dn,zA (lk g)];omega
  |succ i=>rw[Fe (lk (p:=p) g) O,m,show max (i+1) 1=i+1 by omega]
 have b:i=l.bg.length:=O
 have B:x=c6 l p:=by rw[m,b,Nat.max_eq_left O,<-uB l.bg p,dA];rfl
 refine ah.loop (λx:Int×Int=> ∃i:Nat,x.2=i/\i<=l.aD.length/\x.1=lq ((jh l.aD p).take (max i 1))) (λx=>l.aD.length-x.2.toNat) ?_ n _ ⟨0,rfl,O,(zB (lk s)).symm⟩ Z;rintro o ⟨y,z⟩ ⟨i,c,H,q⟩ C;dsimp only at c q⊢;subst c;refine bc (λw=>?_) λA=>ah.some ?_
 ·have g:=bh (O:i<l.aD.length);refine ai (bI g) (ai (rZ e (D _ (bA g)) h) ?_);rw[a' O];refine C _ ⟨i+1,Z,O,?_⟩ Z;dsimp only;rw[show max (i+1) 1=i+1 by omega];cases i with
  |zero=>rw[q,show max 0 1=1 by rfl,dn,zB (lk g)];omega
  |succ i=>rw[Fg (lk (p:=p) g) O,q,show max (i+1) 1=i+1 by omega]
 have b:i=l.aD.length:=O
 rw[B,q,b,Nat.max_eq_left O,<-uB l.aD p,dA];rfl
theorem ur{l:Loop}(n:ew l.bg d=true)(o:ew l.aD b=true)(e:fV k p)(i:k<=3)(A:c6 l p<=v/\v<dJ l p):fV (k+1) (p++[v]):=by
 obtain⟨ay,a2,a3⟩:=nv n;obtain⟨m,B,r⟩:=nv o;have C: -(40*(100*40^k))<=c6 l p:=by
  cases c:l.bg with
  |nil=>rw[c] at ay;simp at ay
  |cons a as=>
   have:=(FU (a3 a (by rw[c];simp)) e i).1;unfold c6 jh;rw[c];exact Int.le_trans this (GD _ _)
 have D:dJ l p<=40*(100*40^k):=by
  cases c:l.aD with
  |nil=>rw[c] at m;simp at m
  |cons a as=>
   have:=(FU (r a (by rw[c];simp)) e i).2;unfold dJ jh;rw[c];exact Int.le_trans (GF _ _) this
 obtain⟨s,F,w⟩:=e;have y:(100*40^(k+1):Int)=40*(100*40^k):=by rw[Int.pow_succ];omega
 have q:=(nX (k:=k) O).1;refine⟨by simp[s],O,λx z=>?_⟩;rw[y];rcases ff.1 z with h|h
 ·have:=w x h;simp only[cM] at this⊢;omega
 simp at h;subst h;simp only[cM];omega
def ey:List Loop->List Int->List (List Int)
 | [],p=>[p]
 |l::bD,p=>(cZ (c6 l p) (dJ l p)).flatMap λv=>ey bD (p++[v])
def eE:List Loop->List Int->Int
 | [],_=>1
 |l::bD,p=>1+((cZ (c6 l p) (dJ l p)).map λv=>eE bD (p++[v])).sum
theorem lr{k:Type}(f:k->Int): ∀(l:List k),(∀x∈l,1<=f x)->(l.length:Int)<=(l.map f).sum
 | [],_=>aV
 |x::l,h=>by have b:=lr f l λy a=>h y (by simp[a]);have c:=h x aV;simp only[List.map_cons,List.sum_cons,List.length_cons];omega
theorem uM: ∀(bD:List Loop) (p:List Int),1<=eE bD p
 | [],p=>fZ _
 |l::bD,p=>by have:=lr (λv=>eE bD (p++[v])) (cZ (c6 l p) (dJ l p)) λv _=>uM bD _;simp only[eE];omega
def Fit(a:List Loop):Prop:=a.length<=4/\ ∀(i:Nat) l,a[i]? =some l->ew l.bg (i:Int)=true/\ew l.aD (i:Int)=true
theorem uR{nest:List Loop}(h:iL nest=true):Fit nest:=by
 simp only[iL,Bool.and_eq_true,decide_eq_true_eq] at h;refine⟨h.2,λi l a=>?_⟩
 have:=Cy h.1 a;simpa[Bool.and_eq_true] using this
theorem xA{l:Loop}{q:List Loop}(h:o.drop k=l::q):o[k]? =some l/\o.drop (k+1)=q/\k<o.length:=by
 have a:(o.drop k)[0]? =some l:=by rw[h];rfl
 rw[ga,nH] at a;refine⟨a,?_,(bt.1 a).1⟩
 have:(o.drop k).drop 1=q:=by rw[h];rfl
 rwa [List.drop_drop] at this
theorem ud(h:o.drop k=[])(a:k<=o.length):k=o.length:=by
 have:(o.drop k).length=0:=by rw[h];rfl
 rw[iV] at this;omega
theorem jQ(p:List Int)(h:p.length<=1100000):app [] p=some p:=by rw[ek b1];rfl
theorem Ew(l:List Int)(f:Int->Int)(v:Int):((l++[v]).map f).sum=(l.map f).sum+f v:=aV
theorem Rl{bg:Int}(h:bg<=v):((cZ bg v).length:Int)=v-bg:=by unfold cZ;simp;omega
theorem D9{b:List Loop}(B:Fit b): ∀(bD:List Loop) (n k:Nat) (p:List Int) (a:Int),5500000+bD.length<=n->b.drop k=bD->k<=b.length->fV k p->0<=a->a<=1200->
  ah (nn n b p a) (λr=>(eE bD p<=a->r=eE bD p)/\(a<eE bD p->a<r)/\1<=r/\r<=a+1)
 | [],n,k,p,a,K,C,L,m,N,P=>by
  obtain⟨n,rfl⟩: ∃j,n=j+1:=⟨n-1,O⟩
  have S:=ud C L;have o:=m.1;unfold nn;rw[bN (show(p.length:Int)=(b.length:Int) by omega)];exact ah.some ⟨λ_=>rfl,λh=>by simp only[eE] at h;omega,O,O⟩
 |l::bD,n,k,p,a,K,C,L,m,N,P=>by
  obtain⟨n,rfl⟩: ∃j,n=j+1:=⟨n-1,O⟩
  obtain⟨Q,T,d3⟩:=xA C;obtain⟨R,W⟩:=B.2 k l Q;have o:=m.1;have D:k<=3:=by have:=B.1;omega
  simp only[List.length_cons] at K;unfold nn;rw[bs (show¬(p.length:Int)=(b.length:Int) by omega)];refine cj (ai (x:=l) (by rw[o];exact bI Q) (ai (Dp O R W m) ?_));let f:Int->Int:=λv=>eE bD (p++[v]);have q: ∀v,1<=f v:=λv=>uM _ _;have U:eE (l::bD) p=1+((cZ (c6 l p) (dJ l p)).map f).sum:=rfl;refine ah.loop (λx:Int×Int=>c6 l p<=x.2/\(x.2<=dJ l p\/x.2=c6 l p)/\(1+((cZ (c6 l p) x.2).map f).sum<=a->x.1=1+((cZ (c6 l p) x.2).map f).sum)/\(a<1+((cZ (c6 l p) x.2).map f).sum->a<x.1)/\1<=x.1/\x.1<=a+1)
   (λx=>(a+1-x.1).toNat) ?_ n _ ⟨fZ _,.inr rfl,λ_=>by rw[jr (fZ _)];rfl,λh=>by rw[jr (fZ _)] at h;simp at h;dsimp only;omega,Z,Z⟩ Z
  rintro F ⟨x,v⟩ ⟨A,X,G,H,g,t⟩ V;dsimp only at A X G H g t⊢;refine ah.aY (λz=>z=decide (v<dJ l p/\x<=a)) (λj u=>bc (λh=>u _ ?_) λh=>u _ ?_) λz Y=>?_
  ·by_cases d:x<=a
   ·rw[bN d,bN ⟨h,d⟩]
   rw[bs d,bs λh=>d h.2]
  ·rw[bs λE=>h E.1]
  subst Y;refine bc (λ⟨e,d⟩=>?_) λs=>ah.some ?_
  ·have w:x=1+((cZ (c6 l p) v).map f).sum:=G (by apply Int.not_lt.1;intro h;have:=H h;omega);have i:=ur R W m D ⟨A,e⟩;have e1:wr (a-x)=a-x:=by rw[a' O]
   rw[e1];refine ai (jQ p O) (ai (ek b1) (jY (D9 B bD n (k+1) (p++[v]) (a-x) O T O i O O) λr ⟨o1,q3,Yl,Ym⟩=>?_));have Ya:v<dJ l p:=e;have HQ: -1000000000<=v/\v<=1000000000:=by
    have h9:=i.2.2 v aV;have hS:=nX i.2.1;simp only[cM] at h9;omega
   rw[a' (n:=v+1) O,a' (n:=x+r) O];have I:1+((cZ (c6 l p) (v+1)).map f).sum=x+f v:=by rw[oZ A,Ew,w];omega
   refine V _ ⟨Z,.inl Z,?_,?_,Z,Z⟩ Z
   ·dsimp only;rw[I];intro h
    have:r=f v:=o1 (O:f v<=a-x);omega
   dsimp only;rw[I];intro h
   have:a-x<r:=q3 (O:a-x<f v);omega
  have c:1+((cZ (c6 l p) v).map f).sum<=eE (l::bD) p/\(dJ l p<=v->1+((cZ (c6 l p) v).map f).sum=eE (l::bD) p):=by
   rw[U];by_cases h:v<dJ l p
   ·refine⟨?_,λE=>O⟩;rw[xo A h,jC,List.sum_append,List.map_cons,List.sum_cons]
    have:=lr f (cZ (v+1) (dJ l p)) λy _=>q y
    have:=q v;omega
   have:cZ (c6 l p) v=cZ (c6 l p) (dJ l p):=by
    rcases X with M|M
    ·rw[show v=dJ l p by omega]
    subst M;rw[jr (fZ _),jr O]
   rw[this];exact⟨fZ _,λ_=>rfl⟩
  refine⟨λh=>?_,λh=>?_,g,t⟩
  ·have d:=G O;rw[d];apply c.2;apply Int.not_lt.1;intro e;exact s ⟨e,O⟩
  apply Int.not_le.1;intro d;have e:dJ l p<=v:=by apply Int.not_lt.1;intro e;exact s ⟨e,d⟩
  have:=H (by rw[c.2 e];exact h);omega
theorem B'{a:List Loop}(A:Fit a): ∀(bD:List Loop) (n k:Nat) (p:List Int) (out:List (List Int)),5500000+bD.length<=n->a.drop k=bD->k<=a.length->fV k p->eE bD p<=1200->out.length<=120->
  ah (mg n out a p) (λr=>(out.length+(ey bD p).length<=120->r=out++ey bD p)/\(120<out.length+(ey bD p).length->120<r.length))
 | [],n,k,p,out,Q,B,R,o,W,T=>by
  obtain⟨n,rfl⟩: ∃j,n=j+1:=⟨n-1,O⟩
  have U:=ud B R;have q:=o.1;have C:=A.1;unfold mg;rw[bN (show(p.length:Int)=(a.length:Int) by omega)];refine dt (ai (jQ p O) (ai (ek b1) (ah.some ⟨λ_=>rfl,λh=>by simp[ey] at h ⊢; omega⟩)))
 |l::bD,n,k,p,out,Q,B,R,o,W,T=>by
  obtain⟨n,rfl⟩: ∃j,n=j+1:=⟨n-1,O⟩
  obtain⟨X,V,d3⟩:=xA B;obtain⟨t,u⟩:=A.2 k l X;have q:=o.1;have C:=A.1;have D:k<=3:=O
  simp only[List.length_cons] at Q;unfold mg;rw[bs (show¬(p.length:Int)=(a.length:Int) by omega)];refine cj (ai (x:=l) (by rw[q];exact bI X) (ai (Dp O t u o) ?_));let f:Int->Int:=λv=>eE bD (p++[v]);have e: ∀v,1<=f v:=λv=>uM _ _;have Y:eE (l::bD) p=1+((cZ (c6 l p) (dJ l p)).map f).sum:=rfl;let g:Int->List (List Int):=λv=>ey bD (p++[v]);have sr:ey (l::bD) p=(cZ (c6 l p) (dJ l p)).flatMap g:=rfl;have E:c6 l p<=dJ l p->dJ l p-c6 l p<=1199:=λF=>by
   have:=lr f (cZ (c6 l p) (dJ l p)) λy _=>e y
   have:=Rl F;omega
  refine ah.loop (λx:List (List Int)×Int=>c6 l p<=x.2/\(x.2<=dJ l p\/x.2=c6 l p)/\(out.length+((cZ (c6 l p) x.2).flatMap g).length<=120->x.1=out++(cZ (c6 l p) x.2).flatMap g)/\(120<out.length+((cZ (c6 l p) x.2).flatMap g).length->120<x.1.length))
   (λx=>(dJ l p-x.2).toNat) ?_ n _ ⟨fZ _,.inr rfl,λ_=>by rw[jr (fZ _)];simp,λh=>by rw[jr (fZ _)] at h;simp at h;omega⟩ Z
  rintro G ⟨x,v⟩ ⟨s,I,H,K⟩ bH;dsimp only at s I H K⊢;refine ah.aY (λz=>z=decide (v<dJ l p/\x.length<=120)) (λj M=>bc (λh=>M _ ?_) λh=>M _ ?_) λz db=>?_
  ·by_cases c:x.length<=120
   ·rw[bN (show(x.length:Int)<=120 by omega),bN ⟨h,c⟩]
   rw[bs (show¬(x.length:Int)<=120 by omega),bs λh=>c h.2]
  ·rw[bs λN=>h N.1]
  subst db;refine bc (λ⟨d,c⟩=>?_) λw=>ah.some ?_
  ·have i:x=out++(cZ (c6 l p) v).flatMap g:=H (by apply Nat.not_lt.1;intro h;have:=K h;omega);have m:=ur t u o D ⟨s,d⟩;have L:f v<=1200:=by
    rw[Y,xo s d,jC,List.sum_append,List.map_cons,List.sum_cons] at W
    have:=lr f (cZ (v+1) (dJ l p)) λy _=>e y
    have:=lr f (cZ (c6 l p) v) λy _=>e y;omega
   refine ai (jQ p O) (ai (ek b1) (jY (B' A bD n (k+1) (p++[v]) x O V O m L c) λr ⟨o1,q3⟩=>?_));have HQ: -1000000000<=v/\v<=1000000000:=by
    have h9:=m.2.2 v aV;have hS:=nX m.2.1;simp only[cM] at h9;omega
   rw[a' (n:=v+1) O];have P:(cZ (c6 l p) (v+1)).flatMap g=(cZ (c6 l p) v).flatMap g++g v:=by rw[oZ s,lx];simp
   refine bH _ ⟨Z,.inl Z,?_,?_⟩ Z
   ·dsimp only;rw[P];intro h;simp only[List.length_append] at h;have ch:x.length=out.length+((cZ (c6 l p) v).flatMap g).length:=by rw[i,dw]
    rw[o1 (O:x.length+(g v).length<=120),i,ix]
   dsimp only;rw[P];intro h;simp only[List.length_append] at h;have ch:x.length=out.length+((cZ (c6 l p) v).flatMap g).length:=by rw[i,dw]
   exact q3 (O:120<x.length+(g v).length)
  have b:((cZ (c6 l p) v).flatMap g).length<=(ey (l::bD) p).length/\(dJ l p<=v->(cZ (c6 l p) v).flatMap g=ey (l::bD) p):=by
   rw[sr];by_cases h:v<dJ l p
   ·refine⟨?_,λN=>O⟩;rw[xo s h,lx,dw];omega
   have:cZ (c6 l p) v=cZ (c6 l p) (dJ l p):=by
    rcases I with S|S
    ·rw[show v=dJ l p by omega]
    subst S;rw[jr (fZ _),jr O]
   rw[this];exact⟨cL _,λ_=>rfl⟩
  refine⟨λh=>?_,λh=>?_⟩
  ·have c:=H O;rw[c,b.2];apply Int.not_lt.1;intro d;exact w ⟨d,by rw[c,dw];omega⟩
  apply Nat.not_le.1;intro c;have d:dJ l p<=v:=by apply Int.not_lt.1;intro d;exact w ⟨d,c⟩
  have:=K (by rw[b.2 d];exact h);omega
theorem DU{a:List Loop}(A:Fit a): ∀(bD:List Loop) (n k:Nat) (p:List Int) (st:Int) (out:List (List Int)),5500000+bD.length<=n->a.drop k=bD->k<=a.length->fV k p->0<=st->st<=1199->out.length<=120->
  ah (mW n ⟨a,st,out⟩ p) (λr=>(st+eE bD p<=1200/\out.length+(ey bD p).length<=120->r=(true,⟨a,st+eE bD p-1,out++ey bD p⟩))/\(¬(st+eE bD p<=1200/\out.length+(ey bD p).length<=120)->r.1=false))
 | [],n,k,p,st,out,R,C,W,i,X,t,m=>by
  obtain⟨n,rfl⟩: ∃j,n=j+1:=⟨n-1,O⟩
  have lW:=ud C W;have q:=i.1;have D:=A.1;unfold mW;dsimp only;rw[bN (show(p.length:Int)=(a.length:Int) by omega)];have c:ht p=some p:=by unfold ht;rw[bn O]
  refine dt (ai c (ai (ek b1) (ah.some ⟨λh=>?_,λh=>?_⟩)))
  ·simp only[eE,ey,List.length_singleton] at h⊢;rw[bN b1,show st+1-1=st by omega]
  simp only[eE,ey,List.length_singleton] at h⊢;exact bs b1
 |l::bD,n,k,p,st,out,R,C,W,i,X,t,m=>by
  obtain⟨n,rfl⟩: ∃j,n=j+1:=⟨n-1,O⟩
  obtain⟨u,d2,d3⟩:=xA C;obtain⟨E,I⟩:=A.2 k l u;have q:=i.1;have D:=A.1;have F:k<=3:=O
  simp only[List.length_cons] at R;unfold mW;dsimp only;rw[bs (show¬(p.length:Int)=(a.length:Int) by omega)];refine cj (ai (x:=l) (by rw[q];exact bI u) (ai (OA O E I i) ?_));let f:Int->Int:=λv=>eE bD (p++[v]);have b: ∀v,1<=f v:=λv=>uM _ _;have M:eE (l::bD) p=1+((cZ (c6 l p) (dJ l p)).map f).sum:=rfl;let g:Int->List (List Int):=λv=>ey bD (p++[v]);have N:ey (l::bD) p=(cZ (c6 l p) (dJ l p)).flatMap g:=rfl;refine ah.loop (λx:List Loop×Int×List (List Int)×Int=>x.1=a/\c6 l p<=x.2.2.2/\(x.2.2.2<=dJ l p\/x.2.2.2=c6 l p)/\x.2.1=st+((cZ (c6 l p) x.2.2.2).map f).sum/\x.2.2.1=out++(cZ (c6 l p) x.2.2.2).flatMap g/\0<=x.2.1/\x.2.1<=1199/\x.2.2.1.length<=120)
   (λx=>(1200-x.2.1).toNat) ?_ n _ ⟨rfl,fZ _,.inr rfl,by dsimp only;rw[jr (fZ _)];simp,by dsimp only;rw[jr (fZ _)];simp,X,t,m⟩ Z
  rintro G ⟨H,x,o,v⟩ ⟨P,s,S,B,e,i5,i6,T⟩ bH;dsimp only at P s S B e i5 i6 T⊢;subst P;have oI:o.length=out.length+((cZ (c6 l p) v).flatMap g).length:=by rw[e,dw]
  refine bc (λK=>?_) λK=>ah.some ?_
  ·have d:=ur E I i F ⟨s,K⟩;have L:eE (l::bD) p≥1+((cZ (c6 l p) v).map f).sum+f v/\(ey (l::bD) p).length≥((cZ (c6 l p) v).flatMap g).length+(g v).length:=by
    rw[M,N,xo s K,jC,List.sum_append,List.map_cons,List.sum_cons,lx,dw,List.flatMap_cons,dw]
    have:=lr f (cZ (v+1) (dJ l p)) λy _=>b y;constructor
    ·omega
    omega
   have HQ: -1000000000<=v/\v<=1000000000:=by
    have h9:=d.2.2 v aV;have hS:=nX d.2.1;simp only[cM] at h9;omega
   have e1:wr (x+1)=x+1:=by rw[a' O]
   have e2:wr (x+1+1)=x+1+1:=by rw[a' O]
   have jS:wr (v+1)=v+1:=by rw[a' O]
   rw[e1,e2,jS];refine ah.aY (λz:List Loop×Int×List (List Int)×Bool=>(z.2.2.2=false->z.1=H/\x+f v<=1199/\o.length+(g v).length<=120/\z.2.1=x+f v/\z.2.2.1=o++g v)/\(z.2.2.2=true-> ¬(st+eE (l::bD) p<=1200/\out.length+(ey (l::bD) p).length<=120)))
    (λj Q=>bc (λh=>Q _ ⟨λjZ=>(by cases jZ),λ_=>?_⟩) λh=>?_) λz db=>?_
   ·have:=b v;omega
   ·have c:ht p=some p:=by unfold ht;rw[bn O]
    refine ai c (ai (ek b1) (jY (DU A bD n (k+1) (p++[v]) (x+1) o O d2 O d O O T) λr ⟨o1,q3⟩=>?_));by_cases c:x+1+f v<=1200/\o.length+(g v).length<=120
    ·rw[o1 c];exact Q _ ⟨λ_=>⟨rfl,O,c.2,show x+1+f v-1=x+f v by omega,rfl⟩,λh=>(by cases h)⟩
    have w:=q3 c;obtain⟨Yn,⟨bX,Yo,ro⟩⟩:=r;dsimp only at w⊢;subst w;exact Q _ ⟨λh=>(by cases h),λ_=>O⟩
   obtain⟨CM,YA,YB,XF⟩:=z;obtain⟨U,V⟩:=db;dsimp only at U V⊢;cases XF with
   |true=>exact ah.some ⟨λh=>a7 h (V rfl),λ_=>rfl⟩
   |false=>
    obtain⟨rfl,Yz,Xw,Xx,Y⟩:=U rfl;refine bH _ ⟨rfl,Z,.inl Z,?_,?_,by dsimp only;have:=b v;omega,Z,?_⟩ (by dsimp only;have:=b v;omega)
    ·dsimp only;rw[oZ s,Ew,Xx,B];omega
    ·dsimp only;rw[Y,e,oZ s,lx];simp
    dsimp only;rw[Y,dw];exact Xw
  have:cZ (c6 l p) v=cZ (c6 l p) (dJ l p):=by
   rcases S with m|m
   ·rw[show v=dJ l p by omega]
   subst m;rw[jr (fZ _),jr O]
  rw[this] at B e oI;rw[<-N] at e oI;refine⟨λh=>?_,λh=>?_⟩
  ·rw[e,B,M,show st+(1+((cZ (c6 l p) (dJ l p)).map f).sum)-1=st+((cZ (c6 l p) (dJ l p)).map f).sum by omega]
  exact a7 ⟨O,O⟩ h
def hG(a:List Loop):Option (List (List Int)):=if iL a=true/\eE a []<=1200/\(ey a []).length<=120 then some (ey a []) else none
def oh:Option (List (List Int))->List (List Int)×Bool
 |none=>([],false)
 |some l=>(l,true)
theorem tm:fV 0 []:=⟨rfl,O,λx h=>by cases h⟩
theorem Kg(i:6600000<=n)(h:pF o):m9 n o=some (oh (hG o)):=by
 refine ah.eq ?_;unfold m9;refine ai (Kt O h) ?_;unfold hG;cases c:iL o with
 |false=>exact ah.some (by simp[oh])
 |true=>
  have b:=uR c;refine jY (DU b o n 0 [] 0 [] (by have:=b.1;omega) rfl O tm O O aV) λr ⟨d,e⟩=>?_;by_cases a:(0:Int)+eE o []<=1200/\([]:List (List Int)).length+(ey o []).length<=120
  ·rw[d a,bn ⟨rfl,O,by simpa using a.2⟩];exact ah.some (by simp[oh])
  rw[e a,br λh=>a ⟨O,by simpa using h.2.2⟩];exact ah.some rfl
theorem Ke(m:6600000<=n)(h:pF o):v7 n o=some (oh (hG o)):=by
 refine ah.eq ?_;unfold v7;refine ah.aY (λz=>z= !(iL o&&decide (eE o []<=1200))) (λj k=>ai (Kq O h) ?_) λz l=>?_
 ·cases b:iL o with
  |false=>exact k _ (by rw[b];rfl)
  |true=>
   have c:=uR b;refine jY (D9 c o n 0 [] 1200 (by have:=c.1;omega) rfl O tm O O) λr ⟨d,e,p,q⟩=>k _ ?_;rw[b,hB];by_cases a:eE o []<=1200
   ·rw[bN a,bs (by rw[d a];omega)];rfl
   rw[bs a,bN (e O)];rfl
 subst l;unfold hG;cases b:iL o with
 |false=>exact ah.some (by simp[oh])
 |true=>
  have c:=uR b;by_cases a:eE o []<=1200
  ·rw[bN a];refine jY (B' c o n 0 [] [] (by have:=c.1;omega) rfl O tm a aV) λr ⟨d,e⟩=>?_;by_cases i:(ey o []).length<=120
   ·rw[d (by simpa using i),bn ⟨rfl,a,i⟩];refine bc (λh=>a7 h b1) λ_=>ah.some (by simp[oh])
   have:=e b1;rw[br λh=>i h.2.2];exact bc (λ_=>ah.some rfl) λh=>a7 h O
  rw[bs a,br λh=>a h.2.1];exact ah.some rfl
def j'(s:List UInt8):Bool:=match s with
 | [b]=>decide (65<=b.toNat/\b.toNat<=68)
 |_=>false
theorem wP(h:s.length≠1):j' s=false:=by
 match s,h with
 | [],_=>rfl
 | [b],h=>exact a7 rfl h
 |_::_::_,_=>rfl
theorem Ao(h:s.length=1): ∃b,s=[b]:=by
 match s,h with
 | [b],_=>exact⟨b,rfl⟩
theorem rX(b:UInt8)(k:Nat)(a:k<256):(b=UInt8.ofNat k)↔b.toNat=k:=by
 constructor
 ·intro h;rw[h];simp;omega
 intro h;rw[<-h];simp
theorem KN(b:UInt8):Lib.contains [65,66,67,68] [b]=decide (65<=b.toNat/\b.toNat<=68):=by
 have h:(b=65)↔b.toNat=65:=rX b 65 O;have i:(b=66)↔b.toNat=66:=rX b 66 O;have k:(b=67)↔b.toNat=67:=rX b 67 O;have l:(b=68)↔b.toNat=68:=rX b 68 O;by_cases a:b=65
 ·subst a;decide
 by_cases c:b=66
 ·subst c;decide
 by_cases d:b=67
 ·subst d;decide
 by_cases e:b=68
 ·subst e;decide
 rw[h] at a;rw[i] at c;rw[k] at d;rw[l] at e;rw[bs O];rw[<-h] at a;rw[<-i] at c;rw[<-k] at d;rw[<-l] at e;simp[Lib.contains,Lib.index,a,c,d,e]
theorem CO(n:Nat)(s:List UInt8):tv n s=some (j' s):=by
 unfold tv;by_cases h:s.length=1
 ·obtain⟨b,rfl⟩:=Ao h;simp only[aY,s3];rw[bn aV,KN];rfl
 rw[bs (show¬(s.length:Int)=1 by omega),wP h];rfl
theorem Dv(b:UInt8):Op.bytesLess [b] [65]=decide (b.toNat<65):=by simp[Op.bytesLess,UInt8.lt_iff_toNat_lt]
theorem Du(b:UInt8):(Op.bytesLess [b] [68]||[b]==[68])=decide (b.toNat<=68):=by
 have e:(b=68)↔b.toNat=68:=rX b 68 O;by_cases h:b=68
 ·subst h;decide
 have c:b.toNat≠68:=λa=>h (e.2 a)
 have:([b]==[(68:UInt8)])=false:=by simp[h]
 rw[this,Bool.or_false];simp only[Op.bytesLess,Bool.and_false,Bool.or_false,UInt8.lt_iff_toNat_lt];apply decide_eq_decide.2;show b.toNat<68↔_;omega
def eU(a:bR)(d:Int):Bool:=a.al.all (λx=>et x d)&&(j' a.array&&decide (1<=a.al.length/\a.al.length<=2))
theorem OH(b:5500000<=n)(c:ku a)(d:Int):sT n a d=some (!et a d):=Dy b c d
theorem JP(b:5500000<=n){a:bR}(c:ja a.al)(d:Int):tg n a d=some (eU a d):=by
 obtain⟨m,h⟩:=c;unfold tg;rw[CO,BV];have bl:=BI (n:=n) (f:=λi=>sT n i d) (p:=λa=> !et a d) (l:=a.al) (λx k=>OH b (h x k) d) O O;simp only[aY,Option.bind];rw[bl];unfold eU;have e:(a.al.any λa=> !et a d)= !(a.al.all λa=>et a d):=by
  rw[pe];simp
 rw[e];cases j' a.array<;>cases decide (1<=a.al.length/\a.al.length<=2)<;>simp
theorem JH(A:5500000<=n){a:bR}(r:ja a.al)(d:Int):ta n a d=some (eU a d):=by
 obtain⟨H,D⟩:=r;refine ah.eq ?_;unfold ta;refine ma (l:=a.al) (p:=λ_ a=>et a d) O O (λk i x o v w=>?_) (λk q=>?_) (λ⟨i,x,o,F⟩=>?_)
 ·have aD:=(bt.1 o).1;have hm:=D x (bA o);rw[bN (show(i:Int)<(a.al.length:Int) by omega)];refine dt (ah.aY (λz=>z= !et x d) (λj m=>ai (bI o) (ai (BB A x hm) ?_)) λz y=>?_)
  ·cases r:cU x with
   |false=>exact m _ (by unfold et;rw[r];rfl)
   |true=>exact ai (wK A hm) (m _ (by unfold et;rw[r,vX];simp))
  subst y;cases s:et x d with
  |true=>show ah (k _) _;rw[a' O];exact v s
  |false=>exact ah.some (w s)
 ·rw[bs (show¬(a.al.length:Int)<(a.al.length:Int) by omega)];have e:a.al.all (λa=>et a d)=true:=gv.2 λc G=>by obtain⟨i,aD⟩:=iw G;exact q i c aD
  unfold eU;rw[e,hB];refine cj (ah.aY (λz=>z=(j' a.array&&decide (1<=a.al.length/\a.al.length<=2))) (λj m=>?_) λz y=>ah.some y);by_cases h:a.array.length=1
  ·rw[bN (show(a.array.length:Int)=1 by omega)];obtain⟨b,s⟩:=Ao h;rw[s] at m⊢;rw[Dv,Du];show ah (bif _ then _ else _) _;simp only[j'] at m⊢;by_cases B:b.toNat<65
   ·rw[bN B];exact m _ (by rw[bs (show¬(65<=b.toNat/\b.toNat<=68) by omega)];rfl)
   rw[bs B];by_cases C:b.toNat<=68
   ·rw[bN C];rw[bN (O:65<=b.toNat/\b.toNat<=68)] at m⊢;refine bc (λh=>m _ ?_) λh=>m _ ?_
    ·by_cases K:a.al.length<=2
     ·rw[bN (show(a.al.length:Int)<=2 by omega),bN O];rfl
     rw[bs (show¬(a.al.length:Int)<=2 by omega),bs O];rfl
    rw[bs O];rfl
   rw[bs C];exact m _ (by rw[bs (show¬(65<=b.toNat/\b.toNat<=68) by omega)];rfl)
  rw[bs (show¬(a.array.length:Int)=1 by omega)];exact m _ (by rw[wP h];rfl)
 unfold eU;rw[ha.2 ⟨x,bA o,by rw[F];simp⟩];rfl
def fQ(a:az):Bool:=decide (a.ak.length=0)&&decide (a.const=0)
def hV(a:bR):Bool:=decide (a.array=[])&&decide (a.al.length=0)
theorem vg(k:Nat):decide ((k:Int)=0)=decide (k=0):=decide_eq_decide.2 O
theorem Lq(n:Nat)(a:az):tc n a=some (fQ a):=by unfold tc fQ;rw[vg];cases decide (a.ak.length=0)<;>rfl
theorem L1(n:Nat)(a:az):qW n a=some (fQ a):=by unfold qW fQ;rw[vg];cases decide (a.ak.length=0)<;>rfl
theorem KL(n:Nat)(a:bR):oS n a=some (hV a):=by unfold oS hV;rw[vg];cases decide (a.array=[])<;>rfl
theorem LS(n:Nat)(a:bR):qL n a=some (hV a):=by unfold qL hV;rw[vg];cases decide (a.array=[])<;>rfl
def eS(e:Expr)(d:Int):Bool:=
 if e.kind=2 then decide (e.num=0)&&(hV e.read&&et e.index d)
 else if e.kind=3 then decide (e.num=0)&&(fQ e.index&&eU e.read d)
 else if e.kind=1 then decide (0<=e.num/\e.num<=99)&&(fQ e.index&&hV e.read)
 else decide (e.num=0)&&(fQ e.index&&hV e.read)
def fA(k:Int):Int:=if k=1\/k=2\/k=3 then 0 else if k=4\/k=5\/k=6 then 2 else-1
theorem L2(n:Nat)(k:Int):xY n k=some (fA k):=by
 unfold xY fA;by_cases a:k=1
 ·subst a;rfl
 by_cases b:k=2
 ·subst b;rfl
 by_cases c:k=3
 ·subst c;rfl
 by_cases d:k=4
 ·subst d;rfl
 by_cases e:k=5
 ·subst e;rfl
 by_cases h:k=6
 ·subst h;rfl
 simp[aY,a,b,c,d,e,h]
theorem Ny(a:5500000<=n){e:Expr}(b:ku e.index)(c:ja e.read.al)(d:Int):uo n e d=some (eS e d):=by
 unfold uo eS;rw[LS,L1,BB a _ b,wK a b,JH a c];by_cases b0:e.kind=2
 ·rw[bn b0,bN b0];simp only[aY,Option.bind,cond_true,et];cases decide (e.num=0)<;>cases hV e.read<;>cases cU e.index<;>simp
 rw[br b0,bs b0];by_cases dH:e.kind=3
 ·rw[bn dH,bN dH];simp only[aY,Option.bind,cond_true,cond_false];cases decide (e.num=0)<;>cases fQ e.index<;>simp
 rw[br dH,bs dH];by_cases b6:e.kind=1
 ·rw[bn b6,bN b6];simp only[aY,Option.bind,cond_true,cond_false];by_cases h:0<=e.num<;>by_cases i:e.num<=99<;>cases fQ e.index<;>simp[h,i]
 rw[br b6,bs b6];simp only[aY,Option.bind,cond_false];cases decide (e.num=0)<;>cases fQ e.index<;>simp
end
section
def pE:Nat->Expr->Prop
 |0,_=>True
 |L+1,e=>e.aJ.length<=1100000/\ku e.index/\ja e.read.al/\ ∀k∈e.aJ,pE L k
def dR:Nat->Expr->Int->Bool
 |0,_,_=>false
 |L+1,e,d=>decide (fA e.kind=e.aJ.length)&&(eS e d&&e.aJ.all λk=>dR L k d)
def dV:Nat->Expr->Int
 |0,_=>1
 |L+1,e=>1+(e.aJ.map (dV L)).sum
theorem l8(k:Int):fA k<=2:=by unfold fA;split;omega;split<;>omega
theorem JX(d:Int): ∀(L n:Nat) (e:Expr),5500000+L<=n->L<=1100000->pE L e->nr (n+1) e d (L:Int)=some (dR L e d)
 |0,n,e,_,_,_=>by unfold nr;rfl
 |L+1,n,e,H,K,w=>by
  obtain⟨Q,y,A,B⟩:=w;unfold nr;refine ah.eq ?_;refine ah.aY (λz=>z= !(decide (fA e.kind=e.aJ.length)&&eS e d)) (λj r=>bc (λh=>O) λh=>ai (L2 n _) (dD (λh=>r _ ?_) λh=>ai (Ny O y A d) (r _ ?_))) λz C=>?_
  ·rw[bs h];rfl
  ·rw[bN h];rfl
  subst C;unfold dR;cases s:(decide (fA e.kind=e.aJ.length)&&eS e d) with
  |false=>exact ah.some (by rw[<-jD,s];rfl)
  |true=>
   rw[<-jD,s,hB];refine cj ?_;obtain⟨n,rfl⟩: ∃j,n=j+1:=⟨n-1,O⟩
   have D:wr (((L+1:Nat):Int)-1)=(L:Int):=by rw[a' O];omega
   rw[D];refine ma (l:=e.aJ) (p:=λ_ k=>dR L k d) O O (λa i x b o q=>?_) (λa m=>?_) (λ⟨i,x,b,F⟩=>?_)
   ·have aD:=(bt.1 b).1;rw[bN (show(i:Int)<(e.aJ.length:Int) by omega)];refine dt (ai (bI b) (ai (JX d L n x O O (B x (bA b))) ?_));cases v:dR L x d with
    |true=>show ah (a _) _;rw[a' O];exact o v
    |false=>exact ah.some (q v)
   ·rw[bs (show¬(e.aJ.length:Int)<(e.aJ.length:Int) by omega)];refine ah.some ?_;exact(gv.2 λc G=>by obtain⟨i,aD⟩:=iw G;exact m i c aD).symm
   exact(ha.2 ⟨x,bA b,by rw[F];simp⟩).symm
theorem rq: ∀(L:Nat) (e:Expr),1<=dV L e
 |0,_=>fZ _
 |L+1,e=>by have:=lr (dV L) e.aJ λk _=>rq L k;simp only[dV];omega
theorem zF{k:Type}(f:k->Int)(M:Int): ∀(l:List k),(∀x∈l,f x<=M)->(l.map f).sum<=l.length*M
 | [],_=>aV
 |x::l,h=>by have b:=zF f M l λy a=>h y (by simp[a]);have c:=h x aV;simp only[List.map_cons,List.sum_cons,List.length_cons,Int.natCast_add,Int.add_mul];omega
variable {d:Int}{n i k:Nat}{s:Stmt}{r:List bW}{x:Part}{a:bR}{l:List Part}{p:Prog}{q m:List Int}
theorem jq{L:Nat}{e:Expr}(h:dR (L+1) e d=true):fA e.kind=e.aJ.length/\eS e d=true/\ ∀k∈e.aJ,dR L k d=true:=by simp only[dR,Bool.and_eq_true,decide_eq_true_eq,List.all_eq_true] at h;exact⟨h.1,h.2.1,h.2.2⟩
theorem uT: ∀{L:Nat} {e:Expr} {d:Int},dR L e d=true->dV L e+1<=2^L
 |0,e,d,h=>by cases h
 |L+1,e,d,h=>by
  obtain⟨c,_,a⟩:=jq h;have i:=zF (dV L) ((2:Int)^L-1) e.aJ λk b=>by have:=uT (a k b);omega
  have l:=l8 e.kind;have m:(e.aJ.length:Int)*((2:Int)^L-1)<=2*((2:Int)^L-1):=by
   refine Int.mul_le_mul_of_nonneg_right O ?_
   have:(0:Int)<2^L:=Int.pow_pos O;omega
  simp only[dV];rw[Int.pow_succ];omega
theorem JY{d:Int}: ∀(L n:Nat) (e:Expr),5500000+L<=n->L<=5->dR L e d=true->o' (n+1) e (L:Int)=some (dV L e)
 |0,n,e,_,_,h=>by cases h
 |L+1,n,e,G,r,h=>by
  obtain⟨H,_,o⟩:=jq h;have K:=l8 e.kind;have p: ∀k∈e.aJ,dV L k<=40:=λk b=>by
   have Q:=uT (o k b);have R:(2:Int)^L<=40:=by
    match L,r with
    |0,_=>decide
    |1,_=>decide
    |2,_=>decide
    |3,_=>decide
    |4,_=>decide
   omega
  unfold o';refine ah.eq ?_;obtain⟨n,rfl⟩: ∃j,n=j+1:=⟨n-1,O⟩
  have s:wr (((L+1:Nat):Int)-1)=(L:Int):=by rw[a' O];omega
  rw[s];refine ah.loop (λx:Int×Int=> ∃i:Nat,x.2=i/\i<=e.aJ.length/\x.1=1+((e.aJ.take i).map (dV L)).sum) (λx=>e.aJ.length-x.2.toNat) ?_ (n+1) _ ⟨0,rfl,O,aV⟩ b1;rintro c ⟨x,k⟩ ⟨i,b,W,l⟩ v;dsimp only at b l⊢;subst b;refine ah.aY (λz=>z=decide (i<e.aJ.length)) (λj q=>bc (λh=>q _ ?_) λh=>q _ ?_) λz w=>?_
  ·rw[bN (show(0:Int)<((L+1:Nat):Int) by omega),bN O]
  ·rw[bs O]
  subst w;refine bc (λm=>?_) λA=>ah.some ?_
  ·have a:=bh m;have hm:=bA a;refine ai (bI a) (ai (JY (d:=d) L n _ O O (o _ hm)) ?_);have hs:=zF (dV L) 40 (e.aJ.take i) λy B=>p y (hA B);have C:=lr (dV L) (e.aJ.take i) λy _=>rq L y;have D:=p _ hm;have F:=rq L e.aJ[i];have X:((e.aJ.take i).length:Int)<=2:=b1
   rw[a' (n:=x+dV L e.aJ[i]) O,a' O];refine v _ ⟨i+1,Z,O,?_⟩ Z;dsimp only;rw[eF,a,jC,List.sum_append,l];simp;omega
  have:i=e.aJ.length:=O
  rw[l,this,dA];rfl
def rU(e:Expr):Bool:=(decide (e.kind=1)||decide (e.num=0))&&((decide (e.kind=2)||fQ e.index)&&(decide (e.kind=3)||hV e.read))
theorem BQ(d:Int): ∀(L n:Nat) (e:Expr) (c:Int),5500000+L<=n->L<=5->pE L e->0<=c->c<=12->
  ah (l4 (n+1) e d (6-(L:Int)) c) (λr=>r.1=(dR L e d&&decide (c+dV L e<=12))/\(r.1=true->r.2=c+dV L e))
 |0,n,e,c,N,P,t,S,T=>by
  unfold l4;refine ah.aY (λz=>z=true) (λj i=>bc (λh=>i _ rfl) λh=>i _ (by decide)) λz m=>?_;subst m;exact ah.some ⟨rfl,λh=>by cases h⟩
 |L+1,n,e,c,N,P,t,S,T=>by
  obtain⟨e1,u,U,E⟩:=t;have V:=rq (L+1) e;unfold l4;have Y:wr (c+1)=c+1:=a' O;have Ul:wr (6-(((L+1:Nat)):Int)+1)=6-(L:Int):=by rw[a' O];omega
  rw[Y,Ul];refine ah.aY (λz=>z=decide (12<c+1)) (λj i=>bc (λh=>i _ (bN h).symm) λh=>i _ ?_) λz m=>?_
  ·rw[bs h,bs O]
  subst m;refine bc (λh=>ah.some ⟨?_,λh=>by cases h⟩) λbl=>?_
  ·rw[bs (show¬c+dV (L+1) e<=12 by omega),kT]
  refine ah.aY (λz=>z= !rU e) (λj i=>?_) λz m=>?_
  ·rw[Lq,KL];unfold rU at i;simp only[Option.bind];by_cases b6:e.kind=1
   ·have b0: ¬e.kind=2:=O
    have dH: ¬e.kind=3:=O
    rw[bN b6,bs b0,bs dH] at*;simp only[Bool.not_true,Bool.not_false,cond_true,cond_false,Bool.true_or,Bool.true_and,Bool.false_or] at*;cases H:fQ e.index with
    |false=>exact i _ (by rw[H];rfl)
    |true=>exact i _ (by rw[H];rfl)
   rw[bs b6] at*;simp only[Bool.not_false,cond_true,Bool.false_or] at*;by_cases o:e.num=0
   ·rw[bN o] at*;simp only[Bool.not_true,cond_false,Bool.true_and] at*;by_cases b0:e.kind=2
    ·have dH: ¬e.kind=3:=O
     rw[bN b0,bs dH] at*;simp only[Bool.not_true,Bool.not_false,cond_true,cond_false,Bool.true_or,Bool.true_and,Bool.false_or] at*;exact i _ rfl
    rw[bs b0] at*;simp only[Bool.not_false,cond_true,Bool.false_or] at*;cases H:fQ e.index with
    |false=>exact i _ (by rw[H];rfl)
    |true=>
     by_cases dH:e.kind=3
     ·rw[bN dH] at*;exact i _ (by rw[H];rfl)
     rw[bs dH] at*;exact i _ (by rw[H];rfl)
   rw[bs o] at*;exact i _ rfl
  subst m;cases s:rU e with
  |false=>
   refine ah.some ⟨?_,λh=>by cases h⟩
   have:eS e d=false:=by
    unfold rU at s;unfold eS;by_cases b0:e.kind=2
    ·have b6: ¬e.kind=1:=O
     have dH: ¬e.kind=3:=O
     rw[bn b0];rw[bN b0,bs b6,bs dH] at s;revert s;cases decide (e.num=0)<;>cases hV e.read<;>simp
    rw[br b0];by_cases dH:e.kind=3
    ·have b6: ¬e.kind=1:=O
     rw[bn dH];rw[bs b0,bs b6,bN dH] at s;revert s;cases decide (e.num=0)<;>cases fQ e.index<;>simp
    rw[br dH];rw[bs b0,bs dH] at s;by_cases b6:e.kind=1
    ·rw[bn b6];rw[bN b6] at s;revert s;cases fQ e.index<;>cases hV e.read<;>simp
    rw[br b6];rw[bs b6] at s;revert s;cases decide (e.num=0)<;>cases fQ e.index<;>cases hV e.read<;>simp
   unfold dR;rw[this];simp
  |true=>
   refine cj ?_;unfold rU at s;simp only[Bool.and_eq_true,Bool.or_eq_true,decide_eq_true_eq] at s;obtain⟨tl,I,Q⟩:=s;have p: ∀(b:Bool),eS e d=b->fA e.kind=0-> ∀(z:Bool),z=(b&&decide ((e.aJ.length:Int)=0))->z=(dR (L+1) e d&&decide (c+dV (L+1) e<=12))/\(z=true->c+1=c+dV (L+1) e):=by
    intro b aQ D z m;unfold dR;rw[aQ,D];by_cases h:e.aJ.length=0
    ·have B:e.aJ=[]:=iW h;have F:dV (L+1) e=1:=by simp[dV,B]
     rw[F,bN (O:c+1<=12)];rw[bN (show(e.aJ.length:Int)=0 by omega)] at m;rw[m,B];simp
    rw[bs (show¬(e.aJ.length:Int)=0 by omega)] at m;rw[m,bs (show¬(0:Int)=(e.aJ.length:Int) by omega)];simp
   by_cases b6:e.kind=1
   ·have b0: ¬e.kind=2:=O
    have dH: ¬e.kind=3:=O
    rw[bN b6];have l:eS e d=decide (0<=e.num/\e.num<=99):=by
     unfold eS;rw[br b0,br dH,bn b6];rcases I with h|h
     ·exact a7 h b0
     rcases Q with y|y
     ·exact a7 y dH
     rw[h,y];simp
    refine dt (ah.aY (λz=>z=(decide (0<=e.num/\e.num<=99)&&decide ((e.aJ.length:Int)=0))) (λj i=>ai (jT n _ _ _) ?_) λz m=>ah.some ?_)
    ·cases w:decide (0<=e.num/\e.num<=99) with
     |true=>exact i _ (by rw[w];rfl)
     |false=>exact i _ (by rw[w];rfl)
    exact p _ l (by unfold fA;rw[bn (Or.inl b6)]) _ m
   rw[bs b6];refine cj ?_;have o:e.num=0:=by
    rcases tl with h|h
    ·exact a7 h b6
    exact h
   by_cases b0:e.kind=2
   ·have dH: ¬e.kind=3:=O
    rw[bN b0];have l:eS e d=et e.index d:=by
     unfold eS;rw[bn b0,bN o];rcases Q with y|y
     ·exact a7 y dH
     rw[y];simp
    refine dt (ah.aY (λz=>z=(et e.index d&&decide ((e.aJ.length:Int)=0))) (λj i=>ai (Im O _ u) ?_) λz m=>ah.some ?_)
    ·unfold et at i;cases w:cU e.index with
     |false=>exact i _ (by rw[w];rfl)
     |true=>
      refine ai (CB O u) (bc (λh=>i _ ?_) λh=>i _ ?_)
      ·rw[w,bN h];rfl
      rw[w,bs h];rfl
    exact p _ l (by unfold fA;rw[bn (Or.inr (Or.inl b0))]) _ m
   rw[bs b0];refine cj ?_;have A:fQ e.index=true:=by
    rcases I with h|h
    ·exact a7 h b0
    exact h
   by_cases dH:e.kind=3
   ·rw[bN dH];have l:eS e d=eU e.read d:=by
     unfold eS;rw[br b0,bn dH,bN o,A];simp
    refine dt (ah.aY (λz=>z=(eU e.read d&&decide ((e.aJ.length:Int)=0))) (λj i=>ai (JP O U d) ?_) λz m=>ah.some ?_)
    ·cases w:eU e.read d with
     |false=>exact i _ (by rw[w];rfl)
     |true=>exact i _ (by rw[w];rfl)
    exact p _ l (by unfold fA;rw[bn (Or.inr (Or.inr dH))]) _ m
   rw[bs dH];refine cj ?_;have l:eS e d=true:=by
    unfold eS;rw[br b0,br dH,br b6,bN o,A];rcases Q with y|y
    ·exact a7 y dH
    rw[y];rfl
   have R:uP n e.kind=some (decide (4<=e.kind/\e.kind<=6)):=by unfold uP;rw[jT];rfl
   have G:(fA e.kind=2↔(4<=e.kind/\e.kind<=6))/\(fA e.kind=2\/fA e.kind= -1):=by
    unfold fA;rw[br O];split<;>omega
   refine ah.aY (λz=>z= !(decide (4<=e.kind/\e.kind<=6)&&decide ((e.aJ.length:Int)=2))) (λj i=>ai R ?_) λz m=>?_
   ·cases w:decide (4<=e.kind/\e.kind<=6) with
    |false=>exact i _ (by rw[w];rfl)
    |true=>exact i _ (by rw[w];rfl)
   subst m;by_cases D:(4<=e.kind/\e.kind<=6)/\(e.aJ.length:Int)=2
   ·rw[bN D.1,bN D.2];refine cj ?_;obtain⟨a,b,v⟩: ∃a b,e.aJ=[a,b]:=by
     have:e.aJ.length=2:=O
     match cK:e.aJ,this with
     | [a,b],_=>exact⟨a,b,rfl⟩
    have W:dR (L+1) e d=(dR L a d&&dR L b d):=by
     show(decide (fA e.kind=e.aJ.length)&&(eS e d&&e.aJ.all λk=>dR L k d))=_;rw[l,v,bN (show fA e.kind=(([a,b]:List Expr).length:Int) by rw[G.1.2 D.1];rfl)];simp
    have F:dV (L+1) e=1+(dV L a+dV L b):=by simp[dV,v]
    have XL:=rq L a;have XN:=rq L b;rw[W,F];obtain⟨n,rfl⟩: ∃j,n=j+1:=⟨n-1,O⟩
    refine ah.aY (λz:Int×Bool=>z.2=(dR L a d&&dR L b d&&decide (c+(1+(dV L a+dV L b))<=12))/\(z.2=true->z.1=c+(1+(dV L a+dV L b)))) (λj i=>?_) λz m=>ah.some m;refine ai (x:=a) (by rw[v];rfl) (jY (BQ d L n a (c+1) O O (E a (by rw[v];simp)) O O) λr ⟨C,X⟩=>?_);cases f:r.1 with
    |false=>
     refine i _ ⟨?_,λh=>by cases h⟩;rw[f] at C;show false=_;by_cases K:dR L a d=true
     ·rw[K,hB] at C
      have:=of_decide_eq_false C.symm;rw[bs (show¬c+(1+(dV L a+dV L b))<=12 by omega),kT]
     rw[Bool.eq_false_iff.2 K];rfl
    |true=>
     have X:=X f;rw[f] at C;have C:=C.symm;rw[ra,decide_eq_true_eq] at C;refine ai (x:=b) (by rw[v];rfl) ?_;rw[X];refine jY (BQ d L n b (c+1+dV L a) O O (E b (by rw[v];simp)) O O) λq ⟨jy,q2⟩=>i _ ⟨?_,λh=>?_⟩
     ·show q.1=_;rw[jy,C.1,hB];congr 1;exact decide_eq_decide.2 O
     show q.2=_;rw[q2 h];omega
   have gj:dR (L+1) e d=false:=by
    unfold dR;rw[bs (show¬fA e.kind=(e.aJ.length:Int) by
     intro h;rcases G.2 with M|M
     ·exact D ⟨G.1.1 M,O⟩
     omega)]
    rfl
   have:(decide (4<=e.kind/\e.kind<=6)&&decide ((e.aJ.length:Int)=2))=false:=by
    by_cases g:4<=e.kind/\e.kind<=6
    ·rw[bs (show¬(e.aJ.length:Int)=2 from λh=>D ⟨g,h⟩),kT]
    rw[bs g];rfl
   rw[this,gj];exact ah.some ⟨rfl,λh=>by cases h⟩
def eK(s:Stmt)(d:Int):Bool:=decide (0<=d/\d<=4)&&(eU s.write d&&(dR 5 s.value d&&decide (dV 5 s.value<=12)))
def uI(s:Stmt):Prop:=ja s.write.al/\pE 5 s.value
theorem Ks(l:6600000<=n)(h:uI s)(d:Int):wA n s d=some (eK s d):=by
 obtain⟨n,rfl⟩: ∃j,n=j+1:=⟨n-1,O⟩
 refine ah.eq ?_;unfold wA;generalize a:eK s d=T;unfold eK at a;refine ah.aY (λz:Int×Bool=>z.2=T) (λj b=>ai (jT _ _ _ _) ?_) λz i=>ah.some i;cases c:decide (0<=d/\d<=4) with
 |false=>exact b (0,false) (by rw[<-a,c];rfl)
 |true=>
  refine dt (ai (JP O h.1 d) ?_);cases e:eU s.write d with
  |false=>exact b (0,false) (by rw[<-a,c,e];rfl)
  |true=>
   refine dt (jY (BQ d 5 n s.value 0 O O h.2 O O) λr ⟨k,m⟩=>b _ ?_);rw[<-a,c,e];show r.1=_;rw[k];simp
theorem Kp(m:6600000<=n)(h:uI s)(d:Int):wo n s d=some (eK s d):=by
 obtain⟨n,rfl⟩: ∃j,n=j+1:=⟨n-1,O⟩
 refine ah.eq ?_;unfold wo;generalize k:eK s d=T;generalize a:(decide (0<=d/\d<=4)&&(eU s.write d&&dR 5 s.value d))=B;have b:T=(B&&decide (dV 5 s.value<=12)):=by rw[<-k,<-a];unfold eK;simp only[Bool.and_assoc]
 refine ah.aY (λz=>z= !B) (λj c=>bc (λh=>c _ ?_) λo=>bc (λh=>c _ ?_) λp=>ai (JH O h.1 d) ?_) λz l=>?_
 ·rw[<-a,bs (show¬(0<=d/\d<=4) by omega)];rfl
 ·rw[<-a,bs (show¬(0<=d/\d<=4) by omega)];rfl
 ·rw[bN (O:0<=d/\d<=4)] at a;cases i:eU s.write d with
  |false=>exact dt (c _ (by rw[<-a,i];rfl))
  |true=>exact cj (ai (JX d 5 n s.value O O h.2) (c _ (by rw[<-a,i];rfl)))
 subst l;cases e:B with
 |false=>exact ah.some (by rw[b,e];rfl)
 |true=>
  rw[e] at a;simp only[Bool.and_eq_true] at a;refine cj (ai (JY (d:=d) 5 n s.value O O a.2.2) (ah.some ?_));rw[b,e];rfl
def ho(a:List Int):Bool:=decide (1<=a.length/\a.length<=2)&&a.all λd=>decide (1<=d/\d<=6)
def pn(a:List bW)(i:Nat)(x:bW):Bool:=match i with
 |0=>true
 |i+1=>match a[i]? with
  |some y=>Op.bytesLess y.name x.name
  |none=>false
def jN(a:List bW)(i:Nat)(x:bW):Bool:=j' x.name&&(pn a i x&&ho x.bp)
def f9(a:List bW):Bool:=pA (jN a) a&&decide (a.length<=4)
def yO(a:List bW):Prop:=a.length<=1100000/\ ∀x∈a,x.bp.length<=1100000
theorem C'{x y:bW}(h:r[i]? =some y):pn r (i+1) x=Op.bytesLess y.name x.name:=by simp only[pn,h]
theorem QA(a:List Int):(a.any λd=> !decide (1<=d/\d<=6))= !(a.all λd=>decide (1<=d/\d<=6)):=by rw[pe];simp
theorem KM(R:6600000<=n){w:List bW}(h:yO w):wV n w=some (f9 w):=by
 obtain⟨W,G⟩:=h;refine ah.eq ?_;unfold wV;refine ma (l:=w) (p:=jN w) O O (λa i x k q s=>?_) (λa m=>?_) (λ⟨i,x,k,v⟩=>?_)
 ·have aD:=(bt.1 k).1;have hm:=G x (bA k);rw[bN (show(i:Int)<(w.length:Int) by omega)];have H:lP n x.bp (λy=>mO n y)=some (!(x.bp.all λd=>decide (1<=d/\d<=6))):=by
   rw[<-QA];exact B1 (λd _=>by unfold mO;rw[jT];rfl) O O
  refine dt (ai (bI k) (ah.aY (λz=>z= !jN w i x) (λj c=>ai (CO n _) ?_) λz K=>?_))
  ·unfold jN ho at c;cases A:j' x.name with
   |false=>exact dt (c _ (by rw[A];rfl))
   |true=>
    rw[A] at c;refine cj ?_;rw[BV];have b:pn w i x=true->ah (Option.bind (some (decide (1<=x.bp.length/\x.bp.length<=2))) λL=>bif !L then j true else Option.bind (lP n x.bp λy=>mO n y) λQ=>j Q) (λr=>r=f9 w):=by
     intro v;rw[v] at c;show ah (bif _ then _ else _) _;cases B:decide (1<=x.bp.length/\x.bp.length<=2) with
     |false=>exact dt (c _ (by rw[B];rfl))
     |true=>exact cj (ai H (c _ (by rw[B];rfl)))
    cases i with
    |zero=>exact bc (λh=>a7 h (by decide)) (λ_=>b rfl)
    |succ i=>
     have C:=bh (O:i<w.length);have e:wr (((i+1:Nat):Int)-1)=(i:Int):=by rw[a' O];omega
     rw[e];refine bc (λ_=>ai (bI C) ?_) λh=>a7 (show(0:Int)<((i+1:Nat):Int) by omega) h;have o:=C' (x:=x) C;cases D:Op.bytesLess w[i].name x.name with
     |false=>exact dt (c _ (by rw[o,D];rfl))
     |true=>exact cj (b (by rw[o,D]))
  subst K;cases F:jN w i x with
  |true=>show ah (a _) _;rw[a' O];exact q F
  |false=>exact ah.some (s F)
 ·rw[bs (show¬(w.length:Int)<(w.length:Int) by omega)];refine ah.some ?_;unfold f9;rw[wy m,hB];exact decide_eq_decide.2 O
 unfold f9;rw[m7 k v];rfl
theorem Qp(s:List UInt8):(!Op.bytesLess s [68]&& !s==[68])= !(Op.bytesLess s [68]||s==[68]):=by cases Op.bytesLess s [68]<;>cases (s==[68])<;>rfl
theorem Lm(Y:6600000<=n){a:List bW}(h:yO a):wJ n a=some (f9 a):=by
 obtain⟨h0,u⟩:=h;refine ah.eq ?_;unfold wJ;refine ma (l:=a) (p:=jN a) O O (λq i x v G w=>?_) (λq A=>?_) (λ⟨i,x,v,H⟩=>?_)
 ·have aD:=(bt.1 v).1;have hm:=u x (bA v);rw[bN (show(i:Int)<(a.length:Int) by omega)];refine dt (ai (bI v) (ah.aY (λz=>z= !(j' x.name&&(pn a i x&&decide (1<=x.bp.length/\x.bp.length<=2)))) (λj c=>?_) λz K=>?_))
  ·refine dD (λE=>c _ ?_) λE=>?_
   ·rw[wP O];rfl
   obtain⟨b,o⟩:=Ao (O:x.name.length=1);rw[Qp];have L: ∀(y:bW),Op.bytesLess y.name x.name=Op.bytesLess y.name [b]:=λy=>by rw[o]
   have Q:j' x.name=decide (65<=b.toNat/\b.toNat<=68):=by rw[o];rfl
   have I:Op.bytesLess x.name [65]=decide (b.toNat<65):=by rw[o];exact Dv b
   have M:(Op.bytesLess x.name [68]||x.name==[68])=decide (b.toNat<=68):=by rw[o];exact Du b
   rw[I,M];rw[Q] at c;refine bc (λN=>c _ ?_) λN=>dD (λP=>c _ ?_) λP=>?_
   ·rw[bs (show¬(65<=b.toNat/\b.toNat<=68) by omega)];rfl
   ·rw[bs (show¬(65<=b.toNat/\b.toNat<=68) by omega)];rfl
   rw[bN (O:65<=b.toNat/\b.toNat<=68)] at c;have m:pn a i x=true->ah (bif decide ((x.bp.length:Int)<1) then j true else j (decide ((2:Int)<(x.bp.length:Int)))) (λr=>r=f9 a):=by
    intro H;rw[H] at c;refine bc (λh=>c _ ?_) λh=>c _ ?_
    ·rw[bs (show¬(1<=x.bp.length/\x.bp.length<=2) by omega)];rfl
    by_cases h2:x.bp.length<=2
    ·rw[bs (show¬(2:Int)<(x.bp.length:Int) by omega),bN (O:1<=x.bp.length/\x.bp.length<=2)];rfl
    rw[bN (show(2:Int)<(x.bp.length:Int) by omega),bs (show¬(1<=x.bp.length/\x.bp.length<=2) by omega)];rfl
   cases i with
   |zero=>exact bc (λh=>a7 h (by decide)) (λ_=>m rfl)
   |succ i=>
    have X:=bh (O:i<a.length);have e:wr (((i+1:Nat):Int)-1)=(i:Int):=by rw[a' O];omega
    rw[e];refine bc (λ_=>ai (bI X) ?_) λh=>a7 (show(0:Int)<((i+1:Nat):Int) by omega) h;have B:=C' (x:=x) X;cases f:Op.bytesLess a[i].name x.name with
    |false=>exact dt (c _ (by rw[B,f];rfl))
    |true=>exact cj (m (by rw[B,f]))
  subst K;cases o:(j' x.name&&(pn a i x&&decide (1<=x.bp.length/\x.bp.length<=2))) with
  |false=>
   refine ah.some (w ?_);unfold jN ho;rw[<-jD,<-jD];rw[<-jD] at o;rw[o];rfl
  |true=>
   have C:jN a i x=x.bp.all (λd=>decide (1<=d/\d<=6)):=by
    unfold jN ho;rw[<-jD,<-jD];rw[<-jD] at o;rw[o];rfl
   refine cj ?_;refine ah.loop (λy:Int=> ∃k:Nat,y=k/\k<=x.bp.length/\ ∀(t:Nat) d,t<k->x.bp[t]? =some d->decide (1<=d/\d<=6)=true) (λy=>x.bp.length-y.toNat) ?_ n _ ⟨0,rfl,O,λt d h=>O⟩ b1;rintro F y ⟨k,rfl,hk,g⟩ S;refine bc (λT=>?_) λU=>?_
   ·have cA:=bh (O:k<x.bp.length);have V:wr ((k:Int)+1)=((k+1:Nat):Int):=by rw[a' O];omega
    refine ah.aY (λz=>z= !decide (1<=x.bp[k]/\x.bp[k]<=6)) (λj c=>ai (bI cA) (bc (λh=>c _ ?_) λh=>c _ ?_)) λz K=>?_
    ·rw[bs O];rfl
    ·by_cases h6:x.bp[k]<=6
     ·rw[bs (show¬(6:Int)<x.bp[k] by omega),bN (O:1<=x.bp[k]/\x.bp[k]<=6)];rfl
     rw[bN (show(6:Int)<x.bp[k] by omega),bs (show¬(1<=x.bp[k]/\x.bp[k]<=6) by omega)];rfl
    subst K;cases D:decide (1<=x.bp[k]/\x.bp[k]<=6) with
    |false=>
     refine ah.some (w ?_);rw[C];exact ha.2 ⟨_,bA cA,by rw[D];simp⟩
    |true=>
     rw[V];refine S _ ⟨k+1,rfl,O,λt d R s=>?_⟩ O;by_cases W:t=k
     ·subst W;rw[cA] at s;cases s;exact D
     exact g t d O s
   have e:wr ((i:Int)+1)=(i:Int)+1:=a' O;rw[e];refine G ?_;rw[C];refine gv.2 λd cA=>?_;obtain⟨t,R⟩:=iw cA
   have:=(bt.1 R).1;exact g t d O R
 ·rw[bs (show¬(a.length:Int)<(a.length:Int) by omega)];refine ah.some ?_;unfold f9;rw[wy A,hB];exact decide_eq_decide.2 O
 unfold f9;rw[m7 v H];rfl
def gJ:List Int->Int
 | []=>1
 |d::a=>d*gJ a
theorem zW{d:List Int}(h:ho d=true):(∃a,d=[a]/\1<=a/\a<=6)\/ ∃a b,d=[a,b]/\(1<=a/\a<=6)/\1<=b/\b<=6:=by
 simp only[ho,Bool.and_eq_true,decide_eq_true_eq,List.all_eq_true] at h;obtain⟨⟨e,i⟩,c⟩:=h
 match d,e,i,c with
 | [a],_,_,c=>exact .inl ⟨a,rfl,c a aV⟩
 | [a,b],_,_,c=>exact .inr ⟨a,b,rfl,c a aV,c b aV⟩
theorem GN{a b:Int}(c:1<=a/\a<=6)(d:1<=b/\b<=6):1<=a*b/\a*b<=36:=by
 constructor
 ·have:=pd c.1 d.1 O O;omega
 have:=pd c.2 d.2 O O;omega
theorem u9{d:List Int}(h:ho d=true):1<=gJ d/\gJ d<=36:=by
 rcases zW h with ⟨a,rfl,c⟩|⟨a,b,rfl,c,e⟩
 ·simp[gJ];omega
 have:=GN c e;simp[gJ];omega
theorem C6(l:6600000<=n){x:bW}(h:ho x.bp=true):xW n x=some (gJ x.bp):=by
 obtain⟨n,rfl⟩: ∃j,n=j+3:=⟨n-3,O⟩
 unfold xW;rcases zW h with ⟨a,e,d⟩|⟨a,b,e,d,i⟩
 ·rw[e];have c:wr a=a:=a' O;simp[ba,aH,gJ,c,show wr 1=1 from a' O]
 rw[e]
 have:=GN d i;have c:wr a=a:=a' O;have k:wr (a*b)=a*b:=a' O;simp[ba,aH,gJ,c,k,show wr 1=1 from a' O,show wr 2=2 from a' O]
theorem OB(a:6600000<=n){x:bW}(h:ho x.bp=true):B0 n x=some (gJ x.bp):=C6 a h
def fF:List az->List Int->List Int->Int->Int
 |s::b,d::c,p,a=>if 0<=eL s p/\eL s p<d then fF b c p (a*d+eL s p) else-1
 |_,_,_,a=>a
def dN:List bW->bR->List Int->Int->Int
 | [],_,_,_=> -1
 |x::c,a,p,b=>if x.name=a.array then(if a.al.length=x.bp.length then(if fF a.al x.bp p 0<0 then-1 else b+fF a.al x.bp p 0) else-1) else dN c a p (b+gJ x.bp)
def kM(a:List bW):Prop:= ∀x∈a,ho x.bp=true
theorem TK{d:List Int}(e:ho d=true){l:List az}(c:l.length=d.length)(p:List Int):fF l d p 0= -1\/(0<=fF l d p 0/\fF l d p 0<gJ d):=by
 rcases zW e with ⟨a,rfl,h⟩|⟨a,b,rfl,h,k⟩
 ·match l,c with
  | [s],_=>
   simp only[fF,gJ,Int.zero_mul,Int.zero_add,Int.mul_one];split<;>omega
 match l,c with
 | [s,t],_=>
  simp only[fF,gJ,Int.zero_mul,Int.zero_add,Int.mul_one];split
  ·rename_i i;split
   ·rename_i m;refine .inr ⟨?_,?_⟩
    ·have:=mm i.1 (O:0<=b);omega
    have:=Int.mul_le_mul_of_nonneg_right (O:eL s p<=a-1) (O:0<=b);rw[Int.sub_mul] at this;omega
   exact .inl rfl
  exact .inl rfl
def lB(a:List bW):Int:=(a.map λx=>gJ x.bp).sum
theorem E9: ∀{xs:List bW},kM xs-> ∀(a:bR) (p:List Int) (b:Int),0<=b->dN xs a p b= -1\/(b<=dN xs a p b/\dN xs a p b<b+lB xs)
 | [],_,a,p,b,_=> .inl rfl
 |x::xs,i,a,p,b,m=>by
  have k:=i x aV;have hs:=u9 k;have c:kM xs:=λy d=>i y (by simp[d]);have n:0<=lB xs:=by
   have:=lr (λx:bW=>gJ x.bp) xs λy d=>(u9 (c y d)).1;unfold lB;omega
  have e:lB (x::xs)=gJ x.bp+lB xs:=by simp[lB]
  rw[e];simp only[dN];split
  ·split
   ·rename_i l;rcases TK k l p with h|h
    ·rw[bn O];exact .inl rfl
    rw[br O];exact .inr ⟨O,O⟩
   exact .inl rfl
  rcases E9 c a p (b+gJ x.bp) O with h|h
  ·exact .inl h
  exact .inr ⟨O,O⟩
theorem ki(h:eU a d=true):1<=a.al.length/\a.al.length<=2/\ ∀x∈a.al,cU x=true:=by
 simp only[eU,Bool.and_eq_true,decide_eq_true_eq,List.all_eq_true] at h;refine⟨h.2.2.1,h.2.2.2,λx b=>?_⟩
 have:=h.1 x b;simp only[et,Bool.and_eq_true] at this;exact this.1
theorem nf{k:Type}{l:List k}{x:k}(h:l[i]? =some x):l.drop i=x::l.drop (i+1):=by obtain⟨a,b⟩:=bt.1 h;rw[nF a,b]
theorem EL{a v:Int}(b:0<=a/\a<=36)(c:1<=d/\d<=6)(e:0<=v/\v<d):0<=a*d/\a*d<=216/\0<=a*d+v:=by have h:=mm b.1 (O:0<=d);have i:=pd b.2 c.2 O O;omega
theorem P6(E:6600000<=n)(I:a.al.length<=2)(W: ∀x∈a.al,cU x=true){e:List Int}(L:ho e=true)(M:a.al.length=e.length){p:List Int}(X:fV k p)(b:Int)(N:0<=b/\b<=500000000):
  ba (λc ((Q,y):Int×Int)=>bif decide (y<(a.al.length:Int)) then(Option.bind (aH a.al y) λf=>Option.bind (k2 n f p) λq=>Option.bind (aH e y) λr=>Option.bind (fL n q 0 (wr (r-1))) λA=>bif !A then(some (-1)) else(c (wr ((wr (Q*r))+q),wr (y+1)))) else(some (wr (b+Q)))) n (0,0)
   =some (if fF a.al e p 0<0 then-1 else b+fF a.al e p 0):=by
 have B: ∀d∈e,1<=d/\d<=6:=by
  simp only[ho,Bool.and_eq_true,decide_eq_true_eq,List.all_eq_true] at L;exact λd h=>L.2 d h
 refine ah.eq ?_;refine ah.loop (λx:Int×Int=> ∃i:Nat,x.2=i/\i<=a.al.length/\0<=x.1/\x.1<=36*i/\(i=0->x.1=0)/\(i=1->x.1<=5)/\fF a.al e p 0=fF (a.al.drop i) (e.drop i) p x.1) (λx=>a.al.length-x.2.toNat) ?_ n _ ⟨0,rfl,O,aV,aV,λ_=>rfl,λh=>O,rfl⟩ b1;rintro C ⟨x,z⟩ ⟨i,R,P,D,F,m,s,l⟩ g;dsimp only at R D F m s l⊢;subst R;refine bc (λj=>?_) λt=>ah.some ?_
 ·have hs:=bh (O:i<a.al.length);have o:=bh (O:i<e.length);have v:=B _ (bA o);have u:wr (e[i]-1)=e[i]-1:=a' O;rw[nf hs,nf o] at l;simp only[fF] at l;refine ai (bI hs) (ai (rZ O (W _ (bA hs)) X) (ai (bI o) (ai (jT _ _ _ _) ?_)));rw[u];by_cases G:0<=eL a.al[i] p/\eL a.al[i] p<e[i]
  ·rw[bn G] at l;rw[bN (O:0<=eL a.al[i] p/\eL a.al[i] p<=e[i]-1)];obtain⟨S,T,U⟩:=EL (a:=x) O v G;refine cj ?_;rw[a' (n:=x*e[i]) O,a' (n:=x*e[i]+eL a.al[i] p) O,a' O];have w:i=0\/i=1:=O
   refine g _ ⟨i+1,Z,O,Z,?_,λh=>O,λh=>?_,l⟩ Z
   ·dsimp only;rcases w with rfl|rfl
    ·rw[m rfl];omega
    have:=s rfl
    have:=pd this v.2 O O;omega
   dsimp only
   have:i=0:=O
   subst this;rw[m rfl];omega
  rw[br G] at l;rw[bs (show¬(0<=eL a.al[i] p/\eL a.al[i] p<=e[i]-1) by omega)];refine dt (ah.some ?_);rw[l];rfl
 have H:i=a.al.length:=O
 have K:fF (a.al.drop i) (e.drop i) p x=x:=by
  rw[H,nL];unfold fF;rfl
 rw[K] at l;rw[l,br O,a' O]
theorem Qa(P:6600000<=n)(S:1<=a.al.length)(T:a.al.length<=2)(t: ∀x∈a.al,cU x=true){b:List Int}(W:ho b=true){p:List Int}(u:fV k p)(c:Int)(U:0<=c/\c<=500000000):
  ba (λe ((X,s):Int×Int)=>bif decide (s<(a.al.length:Int)) then(bif !decide ((a.al.length:Int)=(b.length:Int)) then(some (-1)) else(Option.bind (aH a.al s) λE=>Option.bind (lg n E p) λq=>aY (fun(C:Bool)=>bif C then(some (-1)) else(Option.bind (aH b s) λD=>e (wr ((wr (X*D))+q),wr (s+1)))) λv=>bif decide (q<0) then(v true) else(Option.bind (aH b s) λF=>v (decide (F<=q))))) else(some (wr (c+X)))) n (0,0)
   =some (if a.al.length=b.length then(if fF a.al b p 0<0 then-1 else c+fF a.al b p 0) else-1):=by
 by_cases f:a.al.length=b.length
 ·rw[bn f];rw[bN (show(a.al.length:Int)=(b.length:Int) by omega)];have G: ∀d∈b,1<=d/\d<=6:=by
   simp only[ho,Bool.and_eq_true,decide_eq_true_eq,List.all_eq_true] at W;exact λd h=>W.2 d h
  refine ah.eq ?_;refine ah.loop (λx:Int×Int=> ∃i:Nat,x.2=i/\i<=a.al.length/\0<=x.1/\x.1<=36*i/\(i=0->x.1=0)/\(i=1->x.1<=5)/\fF a.al b p 0=fF (a.al.drop i) (b.drop i) p x.1) (λx=>a.al.length-x.2.toNat) ?_ n _ ⟨0,rfl,O,aV,aV,λ_=>rfl,λh=>O,rfl⟩ b1;rintro H ⟨x,z⟩ ⟨i,B,V,K,L,r,w,l⟩ I;dsimp only at B K L r w l⊢;subst B;refine bc (λM=>?_) λN=>ah.some ?_
  ·have hs:=bh (O:i<a.al.length);have m:=bh (O:i<b.length);have y:=G _ (bA m);rw[nf hs,nf m] at l;simp only[fF] at l;refine cj (ai (bI hs) (ai (r2 O (t _ (bA hs)) u) (ah.aY (λz=>z= !decide (0<=eL a.al[i] p/\eL a.al[i] p<b[i])) (λj g=>bc (λh=>g _ ?_) λh=>ai (bI m) (g _ ?_)) λz B=>?_)))
   ·rw[bs O];rfl
   ·by_cases o:b[i]<=eL a.al[i] p
    ·rw[bN o,bs O];rfl
    rw[bs o,bN O];rfl
   subst B;by_cases o:0<=eL a.al[i] p/\eL a.al[i] p<b[i]
   ·rw[bn o] at l;rw[bN o];obtain⟨Y,g2,g3⟩:=EL (a:=x) O y o;refine cj (ai (bI m) ?_);rw[a' (n:=x*b[i]) O,a' (n:=x*b[i]+eL a.al[i] p) O,a' O];have A:i=0\/i=1:=O
    refine I _ ⟨i+1,Z,O,Z,?_,λh=>O,λh=>?_,l⟩ Z
    ·dsimp only;rcases A with rfl|rfl
     ·rw[r rfl];omega
     have:=w rfl
     have:=pd this y.2 O O;omega
    dsimp only
    have:i=0:=O
    subst this;rw[r rfl];omega
   rw[br o] at l;rw[bs o];refine dt (ah.some ?_);rw[l];rfl
  have Q:i=a.al.length:=O
  have R:fF (a.al.drop i) (b.drop i) p x=x:=by
   rw[Q,nL];unfold fF;rfl
  rw[R] at l;rw[l,br O,a' O]
 rw[br f,bs (show¬(a.al.length:Int)=(b.length:Int) by omega)];obtain⟨n,rfl⟩: ∃j,n=j+1:=⟨n-1,O⟩
 simp only[ba];rw[bN (show(0:Int)<(a.al.length:Int) by omega)];rfl
theorem xy(v:6600000<=n)(K:p.bb.length<=4)(y:kM p.bb)(A:eU a d=true)(B:fV k q):d9 n p a q=some (dN p.bb a q 0):=by
 obtain⟨a0,ay,a2⟩:=ki A;refine ah.eq ?_;unfold d9;refine ah.loop (λx:Int×Int=> ∃i:Nat,x.2=i/\i<=p.bb.length/\0<=x.1/\x.1<=36*i/\dN p.bb a q 0=dN (p.bb.drop i) a q x.1) (λx=>p.bb.length-x.2.toNat) ?_ n _ ⟨0,rfl,O,aV,aV,rfl⟩ b1;rintro l ⟨x,z⟩ ⟨i,w,L,m,o,b⟩ C;dsimp only at w m o b⊢;subst w;refine bc (λD=>?_) λF=>ah.some ?_
 ·have r:=bh (O:i<p.bb.length);have e:=y _ (bA r);have jn:=u9 e;rw[nf r] at b;simp only[dN] at b;refine ai (bI r) (dD (λh=>?_) λG=>?_)
  ·rw[br h] at b;refine ai (OB v e) ?_;rw[a' (n:=x+gJ p.bb[i].bp) O,a' O];exact C _ ⟨i+1,Z,O,Z,Z,b⟩ Z
  rw[bn G] at b;refine dD (λh=>ah.some ?_) λH=>?_
  ·rw[b,br O]
  have c:a.al.length=p.bb[i].bp.length:=O
  rw[bn c] at b;exact ah.of (P6 v ay a2 e c B x O) b.symm
 have s:i=p.bb.length:=O
 rw[b,s,nL];rfl
theorem D'(s:6600000<=n)(G:r.length<=4)(w:kM r)(y:eU a d=true)(A:fV k q):tI n r a q=some (dN r a q 0):=by
 obtain⟨a0,ay,a2⟩:=ki y;refine ah.eq ?_;unfold tI;refine ah.loop (λx:Int×Int=> ∃i:Nat,x.2=i/\i<=r.length/\0<=x.1/\x.1<=36*i/\dN r a q 0=dN (r.drop i) a q x.1) (λx=>r.length-x.2.toNat) ?_ n _ ⟨0,rfl,O,aV,aV,rfl⟩ b1;rintro e ⟨x,z⟩ ⟨i,v,H,h,l,b⟩ B;dsimp only at v h l b⊢;subst v;refine bc (λC=>?_) λD=>ah.some ?_
 ·have m:=bh (O:i<r.length);have c:=w _ (bA m);have jn:=u9 c;rw[nf m] at b;simp only[dN] at b;refine ai (bI m) (dD (λo=>?_) λF=>?_)
  ·rw[br o] at b;refine ai (C6 s c) ?_;rw[a' (n:=x+gJ r[i].bp) O,a' O];exact B _ ⟨i+1,Z,O,Z,Z,b⟩ Z
  rw[bn F] at b;exact ah.of (Qa s a0 ay a2 c A x O) b.symm
 have p:i=r.length:=O
 rw[b,p,nL];rfl
def ej:Nat->Expr->List bR
 |0,_=>[]
 |L+1,e=>(if e.kind=3 then [e.read] else [])++e.aJ.flatMap (ej L)
theorem yn{d:Int}: ∀{L:Nat} {e:Expr},dR L e d=true-> ∀a∈ej L e,eU a d=true
 |0,e,h,a,b=>by cases h
 |L+1,e,h,a,b=>by
  obtain⟨n,c,l⟩:=jq h;simp only[ej,List.mem_append,List.mem_flatMap] at b;rcases b with b|⟨k,m,b⟩
  ·split at b
   ·rename_i i;simp at b;subst b;unfold eS at c;rw[br O,bn i] at c;simp only[Bool.and_eq_true] at c;exact c.2.2
   simp at b
  exact yn (l k m) a b
theorem xq: ∀(L:Nat) (e:Expr),((ej L e).length:Int)<=dV L e
 |0,e=>by simp[ej,dV]
 |L+1,e=>by
  have h: ∀(l:List Expr),((l.flatMap (ej L)).length:Int)<=(l.map (dV L)).sum:=by
   intro l;induction l with
   |nil=>simp
   |cons k l a=>
    have:=xq L k;simp only[List.flatMap_cons,List.length_append,List.map_cons,List.sum_cons];omega
  have:=h e.aJ;simp only[ej,dV,List.length_append];split
  ·rw[pf];omega
  rw[List.length_nil];omega
theorem CA{d:Int}: ∀(L n:Nat) (e:Expr),6600000+L<=n->L<=5->dR L e d=true->mV (n+1) e=some (ej L e)
 |0,n,e,_,_,h=>by cases h
 |L+1,n,e,A,s,h=>by
  obtain⟨B,C,r⟩:=jq h;have v:=l8 e.kind;unfold mV;refine ah.eq (bc (λb=>ah.some ?_) λl=>?_)
  ·have:e.aJ=[]:=by
    have D:fA e.kind=0:=by unfold fA;rw[bn (Or.inr (Or.inr b))]
    exact iW O
   simp[ej,b,this]
  obtain⟨n,rfl⟩: ∃j,n=j+1:=⟨n-1,O⟩
  have m: ∀k∈e.aJ,((ej L k).length:Int)<=100:=λk c=>by
   have F:=uT (r k c);have G:(2:Int)^L<=40:=by
    match L,s with
    |0,_=>decide
    |1,_=>decide
    |2,_=>decide
    |3,_=>decide
    |4,_=>decide
   have:=xq L k;omega
  refine ah.loop (λx:List bR×Int=> ∃i:Nat,x.2=i/\i<=e.aJ.length/\x.1=(e.aJ.take i).flatMap (ej L)/\(x.1.length:Int)<=100*i) (λx=>e.aJ.length-x.2.toNat) ?_ (n+1) _ ⟨0,rfl,O,aV,aV⟩ b1;rintro o ⟨x,k⟩ ⟨i,c,H,p,q⟩ w;dsimp only at c p q⊢;subst c;refine bc (λy=>?_) λz=>ah.some ?_
  ·have a:=bh (O:i<e.aJ.length);have hm:=bA a;have aQ:=m _ hm;refine ai (bI a) (ai (CA (d:=d) L n _ O O (r _ hm)) (ai (ek O) ?_));rw[a' O];refine w _ ⟨i+1,Z,O,?_,by dsimp only;rw[dw];omega⟩ Z;dsimp only;rw[eF,a,lx,p];simp
  have:i=e.aJ.length:=O
  rw[p,this,dA];simp[ej,l]
theorem DF(n:Nat){a:az}(h:a.ak.length<=1100000):qh n a=some a:=by
 unfold qh;refine ah.eq (bc (λb=>ah.some ?_) λb=>ai (jQ _ h) (ah.some rfl));obtain⟨cs,c⟩:=a
 have:cs=[]:=iW (by simpa using b);subst this;rfl
theorem CG(p:5500000<=n)(h:ja a.al):qi n a=some a:=by
 obtain⟨q,e⟩:=h;refine ah.eq ?_;unfold qi;refine ah.loop (λx:List az×Int=> ∃i:Nat,x.2=i/\i<=a.al.length/\x.1=a.al.take i) (λx=>a.al.length-x.2.toNat) ?_ n _ ⟨0,rfl,O,aV⟩ b1;rintro c ⟨x,k⟩ ⟨i,d,r,b⟩ l;dsimp only at d b⊢;subst d;refine bc (λm=>?_) λo=>ah.some ?_
 ·have hs:=bh (O:i<a.al.length);have s:x.length=i:=by rw[b,dP];omega
  refine ai (bI hs) (ai (DF n (e _ (bA hs))) (ai (ek b1) ?_));rw[a' O];refine l _ ⟨i+1,Z,O,?_⟩ Z;dsimp only;rw[eF,hs,b];rfl
 have:i=a.al.length:=O
 rw[b,this,dA]
theorem RP{l:List az}(d:l.length<=2)(b: ∀a∈l,cU a=true):ja l:=⟨O,λa c=>by have:=(jt (b a c)).1;unfold ku;omega⟩
theorem Dn{d:Int}: ∀(L n:Nat) (e:Expr) (out:List bR),6600000+L<=n->L<=5->dR L e d=true->(out.length:Int)<=1100000+200*(6-(L:Int))->pa (n+1) out e=some (out++ej L e)
 |0,n,e,out,_,_,h,_=>by cases h
 |L+1,n,e,out,K,y,h,Q=>by
  obtain⟨R,W,s⟩:=jq h;have A:=l8 e.kind;unfold pa;refine ah.eq (ah.aY (λz=>z=out++(if e.kind=3 then [e.read] else [])) (λj v=>bc (λa=>?_) λm=>v _ (by rw[br m];simp)) λz w=>?_)
  ·have B:=yn h e.read (by simp[ej,a]);obtain⟨_,C,D⟩:=ki B;exact ai (CG O (RP C D)) (ai (ek b1) (v _ (by rw[bn a])))
  subst w;obtain⟨n,rfl⟩: ∃j,n=j+1:=⟨n-1,O⟩
  by_cases a:e.kind=3
  ·have b:e.aJ=[]:=by
    have w:fA e.kind=0:=by unfold fA;rw[bn (Or.inr (Or.inr a))]
    exact iW O
   rw[b];refine ah.some ?_;simp[ej,a,b]
  have o: ∀k∈e.aJ,((ej L k).length:Int)<=100:=λk l=>by
   have X:=uT (s k l);have f:(2:Int)^L<=40:=by
    match L,y with
    |0,_=>decide
    |1,_=>decide
    |2,_=>decide
    |3,_=>decide
    |4,_=>decide
   have:=xq L k;omega
  rw[br a,kn];refine ah.loop (λx:List bR×Int=> ∃i:Nat,x.2=i/\i<=e.aJ.length/\x.1=out++(e.aJ.take i).flatMap (ej L)/\(x.1.length:Int)<=out.length+100*i) (λx=>e.aJ.length-x.2.toNat) ?_ (n+1) _ ⟨0,rfl,O,aV,aV⟩ b1;rintro p ⟨x,k⟩ ⟨i,l,g,q,r⟩ F;dsimp only at l q r⊢;subst l;refine bc (λG=>?_) λH=>ah.some ?_
  ·have c:=bh (O:i<e.aJ.length);have hm:=bA c;have aQ:=o _ hm;refine ai (bI c) (ai (Dn (d:=d) L n _ x O O (s _ hm) O) ?_);rw[a' O];refine F _ ⟨i+1,Z,O,?_,by dsimp only;rw[dw];omega⟩ Z;dsimp only;rw[eF,c,lx,q];simp
  have:i=e.aJ.length:=O
  rw[q,this,dA];simp[ej,a]
theorem F5{o:List Loop}(b:Fit o): ∀(bD:List Loop) (k:Nat) (p q:List Int),o.drop k=bD->k<=o.length->fV k p->q∈ey bD p->fV o.length q
 | [],k,p,q,c,e,d,a=>by
  have:=ud c e;simp only[ey,List.mem_singleton] at a;subst a;subst this;exact d
 |l::bD,k,p,q,c,e,d,a=>by obtain⟨h,i,w⟩:=xA c;obtain⟨m,n⟩:=b.2 k l h;have r:=b.1;simp only[ey,List.mem_flatMap] at a;obtain⟨v,s,a⟩:=a;exact F5 b bD (k+1) _ q i O (ur m n d O (Rk.1 s)) a
theorem oi{o:List Loop}{z:List (List Int)}(h:hG o=some z):Fit o/\z.length<=120/\(∀q∈z,fV o.length q)/\z=ey o []/\eE o []<=1200:=by
 unfold hG at h;split at h
 ·rename_i a;cases h;have b:=uR a.1;exact⟨b,a.2.2,λq c=>F5 b o 0 [] q rfl O tm c,rfl,a.2.1⟩
 cases h
def fN(b:List bW)(s:Stmt)(q:List Int):Bool:=decide (0<=dN b s.write q 0)&&(ej 5 s.value).all λa=>decide (0<=dN b a q 0)
theorem j7(h:eK s d=true):eU s.write d=true/\dR 5 s.value d=true/\(∀a∈ej 5 s.value,eU a d=true)/\(ej 5 s.value).length<=12:=by
 simp only[eK,Bool.and_eq_true,decide_eq_true_eq] at h;obtain⟨_,c,b,e⟩:=h
 have:=xq 5 s.value;exact⟨c,b,yn b,O⟩
theorem MM(B:7700000<=n)(c:p.bb.length<=4)(e:kM p.bb)(o:eK s d=true)(i:fV k q):vL n p s q=some (fN p.bb s q):=by
 obtain⟨r,v,w,C⟩:=j7 o;obtain⟨n,rfl⟩: ∃j,n=j+1:=⟨n-1,O⟩
 refine ah.eq ?_;unfold vL;generalize b:fN p.bb s q=T;unfold fN at b;refine ah.aY (λz=>z=T) (λj m=>ai (xy O c e r i) (bc (λh=>?_) λh=>m _ ?_)) λz x=>ah.some x
 ·have bl:=Kh (n:=n+1) (f:=λy=>d8 (n+1) y p q) (p:=λa=>decide (dN p.bb a q 0<0)) (l:=ej 5 s.value)
   (λa A=>by unfold d8;rw[xy O c e (w a A) i];rfl) O O
  refine ai (CA (d:=d) 5 n s.value O O v) (ai bl (m _ ?_));rw[<-b,bN h,hB,pe];congr 1;apply congrArg λf=>List.any (ej 5 s.value) f;funext a;rw[vX]
 rw[<-b,bs h];rfl
theorem JW(u:7700000<=n)(B:r.length<=4)(C:kM r)(G:eK s d=true)(D:fV k q):
  qK n r s q=some (if fN r s q=true then((ej 5 s.value).map λa=>dN r a q 0,dN r s.write q 0,true) else([],0,false)):=by
 obtain⟨H,K,L,E⟩:=j7 G;obtain⟨n,rfl⟩: ∃j,n=j+1:=⟨n-1,O⟩
 refine ah.eq ?_;unfold qK;refine ai (Dn (d:=d) 5 n s.value [] O O K aV) ?_;rw[List.nil_append];generalize Q:ej 5 s.value=R at*;have c:fN r s q=(decide (0<=dN r s.write q 0)&&R.all λa=>decide (0<=dN r a q 0)):=by unfold fN;rw[Q]
 refine ah.loop (λx:List Int×Int=> ∃i:Nat,x.2=i/\i<=R.length/\x.1=(R.take i).map (λa=>dN r a q 0)/\ ∀(t:Nat) a,t<i->R[t]? =some a->0<=dN r a q 0) (λx=>R.length-x.2.toNat) ?_ (n+1) _ ⟨0,rfl,O,aV,λt a h=>O⟩ Z;rintro p ⟨x,z⟩ ⟨i,F,I,o,v⟩ W;dsimp only at F o v⊢;subst F;refine bc (λX=>?_) λf=>?_
 ·have bE:=bh (O:i<R.length);have hm:=bA bE;refine ai (bI bE) (ai (D' O B C (L _ hm) D) (bc (λe=>ah.some ?_) λl=>?_))
  ·rw[br];rw[c];intro h;rw[ra] at h
   have:=gv.1 h.2 _ hm;rw[decide_eq_true_eq] at this;omega
  have g:x.length<=12:=by rw[o,dL,dP];omega
  refine ai (ek b1) ?_;rw[a' O];refine W _ ⟨i+1,Z,O,?_,λt a w b=>?_⟩ Z
  ·dsimp only;rw[eF,bE,jC,o];rfl
  by_cases y:t=i
  ·subst y;rw[bE] at b;cases b;omega
  exact v t a O b
 have A:i=R.length:=O
 have m:R.all (λa=>decide (0<=dN r a q 0))=true:=gv.2 (λa hm=>by
  obtain⟨t,w⟩:=iw hm
  have:=(bt.1 w).1;exact bN (v t a O w))
 rw[c,m,Bool.and_true];refine ai (D' O B C H D) (bc (λe=>ah.some ?_) λl=>ah.some ?_)
 ·rw[br (by rw[decide_eq_true_eq];omega)]
 rw[bn (by rw[decide_eq_true_eq];omega),o,A,dA]
def hX(q:List Int):Bool:=decide (q.length<=4)&&q.all λx=>decide (-9999<=x/\x<=9999)
theorem LJ(b:5500000<=n)(h:q.length<=1100000):xx n q=some (hX q):=by
 unfold xx hX;have bl:=B1 (n:=n) (f:=λa=>sY n a) (p:=λx=> !decide (-9999<=x/\x<=9999)) (l:=q) (λx _=>by unfold sY;rw[jT];rfl) O O;simp only[aY,Option.bind];rw[bl];have e:(q.any λx=> !decide (-9999<=x/\x<=9999))= !(q.all λx=>decide (-9999<=x/\x<=9999)):=by rw[pe];simp
 rw[e,show decide ((q.length:Int)<=4)=decide (q.length<=4) from decide_eq_decide.2 O];cases decide (q.length<=4)<;>simp
theorem LU(r:5500000<=n)(h:q.length<=1100000):w8 n q=some (hX q):=by
 refine ah.eq ?_;unfold w8;refine ma (l:=q) (p:=λ_ x=>decide (-9999<=x/\x<=9999)) O O (λa i x d k m=>?_) (λa b=>?_) (λ⟨i,x,d,e⟩=>?_)
 ·have aD:=(bt.1 d).1;rw[bN (show(i:Int)<(q.length:Int) by omega)];refine dt (ai (bI d) (ai (B9 n x 9999 O) ?_));cases e:decide (-9999<=x/\x<=9999) with
  |true=>show ah (a _) _;rw[a' O];exact k e
  |false=>exact ah.some (m e)
 ·rw[bs (show¬(q.length:Int)<(q.length:Int) by omega)];refine ah.some ?_;unfold hX;rw[gv.2 (λc o=>by obtain⟨i,aD⟩:=iw o;exact b i c aD),Bool.and_true];exact decide_eq_decide.2 O
 unfold hX;rw[ha.2 ⟨x,bA d,by rw[e];simp⟩,kT]
theorem EI{k:Type}(p q:k->Bool): ∀l:List k,(l.all p&&l.all q)=l.all (λx=>p x&&q x)
 | []=>rfl
 |x::l=>by simp only[List.all_cons,<-EI p q l];cases p x<;>cases q x<;>cases l.all p<;>cases l.all q<;>rfl
def lH(a:Part):Bool:=decide (1<=a.body.length/\a.body.length<=4)&&a.body.all λs=>eK s (a.nest.length:Int)
def hR(a:Part):List (List Int):=(hG a.nest).getD []
def eB(b:List bW)(a:Part):Bool:=(hG a.nest).isSome&&(lH a&&a.body.all λs=>(hR a).all λq=>fN b s q&&hX q)
def zJ(x:Part):Prop:=pF x.nest/\x.body.length<=1100000/\ ∀s∈x.body,uI s
def jc(p:Prog):Prop:=yO p.bb/\p.parts.length<=1100000/\ ∀x∈p.parts,zJ x
theorem kI(h:eB r x=true):hG x.nest=some (hR x)/\(1<=x.body.length/\x.body.length<=4)/\(∀s∈x.body,eK s (x.nest.length:Int)=true)/\ ∀s∈x.body,∀q∈hR x,fN r s q=true/\hX q=true:=by
 simp only[eB,lH,Bool.and_eq_true,decide_eq_true_eq,List.all_eq_true] at h;refine⟨?_,h.2.1.1,h.2.1.2,h.2.2⟩;unfold hR;cases a:hG x.nest with
 |none=>rw[a] at h;simp at h
 |some b=>rfl
theorem zI{list:List bW}(h:f9 list=true):list.length<=4/\kM list:=by
 simp only[f9,Bool.and_eq_true,decide_eq_true_eq] at h;refine⟨h.2,λx a=>?_⟩;obtain⟨i,b⟩:=iw a
 have:=Cy h.1 b;simp only[jN,Bool.and_eq_true] at this;exact this.2.2
theorem L0(cn:7700000<=n){a:List bW}(N:a.length<=4)(P:kM a)(S:zJ x):
  xX n a x=some (if eB a x=true then(((hR x).length:Int)*(x.body.length:Int),true) else(0,false)):=by
 obtain⟨U,h2,V⟩:=S;refine ah.eq ?_;unfold xX;generalize u:(if eB a x=true then(((hR x).length:Int)*(x.body.length:Int),true) else((0:Int),false))=T;refine ai (Ke O U) ?_;have c:eB a x=false->((0:Int),false)=T:=λh=>by rw[<-u,h];rfl
 refine ah.aY (λz=>z= !((hG x.nest).isSome&&decide (1<=x.body.length/\x.body.length<=4))) (λj l=>?_) λz L=>?_
 ·cases m:hG x.nest with
  |none=>exact dt (l _ (by rw[m];rfl))
  |some b=>
   refine cj (bc (λh=>l _ ?_) λh=>l _ ?_)
   ·rw[m,bs O];rfl
   rw[m];by_cases h4:x.body.length<=4
   ·rw[bs (show¬(4:Int)<(x.body.length:Int) by omega),bN O];rfl
   rw[bN (show(4:Int)<(x.body.length:Int) by omega),bs O];rfl
 subst L;cases m:hG x.nest with
 |none=>exact ah.some (c (by unfold eB;rw[m];rfl))
 |some b=>
  obtain⟨gj,Y,Q,Vr,Vs⟩:=oi m;have w:hR x=b:=by unfold hR;rw[m];rfl
  by_cases H:1<=x.body.length/\x.body.length<=4
  ·rw[bN H];refine cj ?_;have o:eB a x=x.body.all (λs=>eK s (x.nest.length:Int)&&b.all λq=>fN a s q&&hX q):=by
    unfold eB lH;rw[m,w,bN H,Option.isSome_some,hB,hB];exact EI _ _ _
   refine ah.loop (λy:Int=> ∃i:Nat,y=i/\i<=x.body.length/\ ∀(t:Nat) s,t<i->x.body[t]? =some s->(eK s (x.nest.length:Int)&&b.all λq=>fN a s q&&hX q)=true) (λy=>x.body.length-y.toNat) ?_ n _ ⟨0,rfl,O,λt s h=>O⟩ b1;rintro R y ⟨i,rfl,aD,E⟩ bH;refine bc (λhlt=>?_) λj0=>ah.some ?_
   ·have bE:=bh (O:i<x.body.length);have hm:=bA bE;refine ai (bI bE) (ai (Kp O (V _ hm) _) ?_);cases e:eK x.body[i] (x.nest.length:Int) with
    |false=>
     refine dt (ah.some (c ?_));rw[o];exact ha.2 ⟨_,hm,by rw[e];simp⟩
    |true=>
     refine cj ?_;show ah (ba (λd (xF:Int)=>bif decide (xF<(b.length:Int)) then _ else _) n 0) _;refine ah.loop (λy:Int=> ∃k:Nat,y=k/\k<=b.length/\ ∀(t:Nat) q,t<k->b[t]? =some q->(fN a x.body[i] q&&hX q)=true) (λy=>b.length-y.toNat) ?_ n _ ⟨0,rfl,O,λt s h=>O⟩ b1;rintro d y ⟨k,rfl,hk,A⟩ W;refine bc (λI=>?_) λM=>?_
     ·have p:=bh (O:k<b.length);have B:=bA p;have C:=Q _ B;have X:b[k].length<=1100000:=by have:=C.1;have:=C.2.1;omega
      refine ai (bI p) (ai (JW O N P e C) (ah.aY (λz=>z= !(fN a x.body[i] b[k]&&hX b[k])) (λj l=>?_) λz L=>?_))
      ·cases D:fN a x.body[i] b[k] with
       |false=>
        rw[D] at l;exact dt (l _ rfl)
       |true=>
        rw[D] at l;exact cj (ai (LU O X) (l _ rfl))
      subst L;cases D:(fN a x.body[i] b[k]&&hX b[k]) with
      |false=>
       refine ah.some (c ?_);rw[o];refine ha.2 ⟨_,hm,?_⟩;rw[e,hB];rw[ha.2 ⟨_,B,by rw[D];simp⟩];simp
      |true=>
       show ah (d _) _;rw[a' O];refine W _ ⟨k+1,O,O,λt q K r=>?_⟩ O;by_cases f:t=k
       ·subst f;rw[p] at r;cases r;exact D
       exact A t q O r
     rw[a' O];refine bH _ ⟨i+1,O,O,λt s K v=>?_⟩ O;by_cases g:t=i
     ·subst g;rw[bE] at v;cases v;rw[e,hB];refine gv.2 λq C=>?_;obtain⟨jA,F⟩:=iw C
      have:=(bt.1 F).1;exact A jA q O F
     exact E t s O v
   have G:eB a x=true:=by
    rw[o];refine gv.2 λs hs=>?_;obtain⟨t,K⟩:=iw hs
    have:=(bt.1 K).1;exact E t s O K
   rw[<-u,G,bn rfl,w];show(wr ((b.length:Int)*(x.body.length:Int)),true)=_;have kE:(0:Int)<=(b.length:Int)*(x.body.length:Int):=mm O O;have Hd:(b.length:Int)*(x.body.length:Int)<=120*4:=pd O O O O;rw[a' O]
  rw[bs H];refine ah.some (c ?_);unfold eB lH;rw[bs H];simp
def f8(x:Part):Int:=((hR x).length:Int)*(x.body.length:Int)
def lb(i:Nat)(x:Part):List cy:=(hR x).flatMap λq=>(List.range x.body.length).map fun(k:Nat)=>(⟨(i:Int),(k:Int),q⟩:cy)
def cB(a:List Part):List cy:=a.zipIdx.flatMap λy=>lb y.2 y.1
def iS(p:Prog):Bool:=f9 p.bb&&(decide (p.parts.length<=4)&&p.parts.all (eB p.bb))
def da(p:Prog):Bool:=iS p&&decide ((p.parts.map f8).sum<=120)
theorem VW(l:List Part)(x:Part):cB (l++[x])=cB l++lb l.length x:=by unfold cB;rw[List.zipIdx_append,lx];simp
theorem Bs(h:l[i]? =some x):cB (l.take (i+1))=cB (l.take i)++lb i x:=by have aD:=(bt.1 h).1;rw[eF,h];show cB (l.take i++[x])=_;rw[VW,dP,Nat.min_eq_left (Nat.le_of_lt aD)]
theorem ub{k R:Type}(f:k->List R)(m:Nat)(h: ∀x,(f x).length=m): ∀l:List k,(l.flatMap f).length=l.length*m
 | []=>aV
 |x::l=>by rw[List.flatMap_cons,dw,h,ub f m h l,List.length_cons,dM];omega
theorem Bq(i:Nat)(x:Part):((lb i x).length:Int)=f8 x:=by unfold lb f8;rw[ub _ x.body.length λq=>aV];exact Int.natCast_mul _ _
theorem Ev(h:l[i]? =some x):((l.take (i+1)).map f8).sum=((l.take i).map f8).sum+f8 x:=by rw[eF,h];simp
theorem HY: ∀(l:List Part) (i:Nat),i<=l.length->((cB (l.take i)).length:Int)=((l.take i).map f8).sum
 |l,0,_=>by simp[cB]
 |l,i+1,h=>by
  have bE:=bh (O:i<l.length);rw[Bs bE,dw,Ev bE]
  have:=HY l i O
  have:=Bq i l[i];omega
theorem Br(l:List Part):((cB l).length:Int)=(l.map f8).sum:=by
 have:=HY l l.length (cL _)
 rwa [dA] at this
theorem yA(h:eB r x=true):0<=f8 x/\f8 x<=480:=by
 obtain⟨a,b,_⟩:=kI h;obtain⟨_,c,_⟩:=oi a;unfold f8;refine⟨mm O O,?_⟩
 have:=pd (show((hR x).length:Int)<=120 by omega) (show(x.body.length:Int)<=4 by omega) O O;omega
theorem Bx(f:7700000<=n)(D:jc p):sL n p=some (da p):=by
 obtain⟨F,g,G⟩:=D;refine ah.eq ?_;unfold sL;generalize o:da p=T;unfold da iS at o;refine ah.aY (λz=>z= !(f9 p.bb&&decide (p.parts.length<=4))) (λj A=>ai (Lm O F) ?_) λz l=>?_
 ·cases d:f9 p.bb with
  |false=>exact dt (A _ (by rw[d];rfl))
  |true=>
   refine cj (A _ ?_);rw[d];by_cases B:p.parts.length<=4
   ·rw[bs (show¬(4:Int)<(p.parts.length:Int) by omega),bN B];rfl
   rw[bN (show(4:Int)<(p.parts.length:Int) by omega),bs B];rfl
 subst l;cases m:(f9 p.bb&&decide (p.parts.length<=4)) with
 |false=>
  refine ah.some ?_;rw[<-o,<-jD,m];rfl
 |true=>
  have e:T=(p.parts.all (eB p.bb)&&decide ((p.parts.map f8).sum<=120)):=by rw[<-o,<-jD,m];rfl
  rw[ra,decide_eq_true_eq] at m;obtain⟨H,K⟩:=zI m.1;refine cj ?_;refine ah.loop (λx:Int×Int=> ∃i:Nat,x.2=i/\i<=p.parts.length/\x.1=((p.parts.take i).map f8).sum/\0<=x.1/\x.1<=480*i/\ ∀(t:Nat) y,t<i->p.parts[t]? =some y->eB p.bb y=true) (λx=>p.parts.length-x.2.toNat) ?_ n _ ⟨0,rfl,O,aV,aV,aV,λt y h=>O⟩ Z;rintro a ⟨x,z⟩ ⟨i,l,u,C,q,r,d⟩ L;dsimp only at l C q r d⊢;subst l;refine bc (λQ=>?_) λR=>ah.some ?_
  ·have bE:=bh (O:i<p.parts.length);have hm:=bA bE;refine ai (bI bE) (ai (L0 O H K (G _ hm)) ?_);cases b:eB p.bb p.parts[i] with
   |false=>
    rw[br aV];refine ah.some ?_;rw[e,ha.2 ⟨_,hm,by rw[b];simp⟩];rfl
   |true=>
    rw[bn rfl];have W:=yA b;show ah (a (wr (x+f8 p.parts[i]),wr ((i:Int)+1))) _;rw[a' (n:=x+f8 p.parts[i]) O,a' O];refine L _ ⟨i+1,Z,O,by dsimp only;rw[Ev bE];omega,Z,Z,λt y s c=>?_⟩ Z;by_cases v:t=i
    ·subst v;rw[bE] at c;cases c;exact b
    exact d t y O c
  have w:i=p.parts.length:=O
  have k:p.parts.all (eB p.bb)=true:=gv.2 (λy X=>by
   obtain⟨t,s⟩:=iw X
   have:=(bt.1 s).1;exact d t y O s)
  rw[e,k,hB,C,w,dA]
theorem Jq{R:Type}(f:Nat->R)(k:Nat):(List.range (k+1)).map f=(List.range k).map f++[f k]:=by rw[pj,jC];rfl
theorem Jr(cn:7700000<=n)(hp:jc p):p4 n p=some (if iS p=true then(cB p.parts,decide ((cB p.parts).length<=120)) else([],false)):=by
 obtain⟨h1,h2,h3⟩:=hp;refine ah.eq ?_;unfold p4;generalize iI:(if iS p=true then(cB p.parts,decide ((cB p.parts).length<=120)) else([],false))=T;have a:iS p=false->(([]:List cy),false)=T:=λh=>by rw[<-iI,h];rfl
 refine ah.aY (λz=>z= !(f9 p.bb&&decide (p.parts.length<=4))) (λj E=>ai (KM O h1) ?_) λz c=>?_
 ·cases I:f9 p.bb with
  |false=>exact dt (E _ (by rw[I];rfl))
  |true=>
   refine cj (E _ ?_);rw[I];by_cases h4:p.parts.length<=4
   ·rw[bs (show¬(4:Int)<(p.parts.length:Int) by omega),bN h4];rfl
   rw[bN (show(4:Int)<(p.parts.length:Int) by omega),bs h4];rfl
 subst c;cases aQ:(f9 p.bb&&decide (p.parts.length<=4)) with
 |false=>exact ah.some (a (by unfold iS;rw[<-jD,aQ];rfl))
 |true=>
  have d:iS p=p.parts.all (eB p.bb):=by unfold iS;rw[<-jD,aQ];rfl
  rw[ra,decide_eq_true_eq] at aQ;obtain⟨ch,cA⟩:=zI aQ.1;refine cj ?_;refine ah.loop (λx:List cy×Int=> ∃i:Nat,x.2=i/\i<=p.parts.length/\x.1=cB (p.parts.take i)/\x.1.length<=480*i/\ ∀(t:Nat) y,t<i->p.parts[t]? =some y->eB p.bb y=true) (λx=>p.parts.length-x.2.toNat) ?_ n _ ⟨0,rfl,O,by simp[cB],aV,λt y h=>O⟩ Z;rintro again ⟨x,z⟩ ⟨i,c,aD,hx,VL,I⟩ bH;dsimp only at c hx VL I⊢;subst c;refine bc (λhlt=>?_) λj0=>ah.some ?_
  ·have bE:=bh (O:i<p.parts.length);have hm:=bA bE;obtain⟨s1,s2,WX⟩:=h3 _ hm;generalize sr:p.parts[i]=P at*;have r:eB p.bb P=false->iS p=false:=λh=>by rw[d];exact ha.2 ⟨_,hm,by rw[h];simp⟩
   refine ai (bI bE) (ai (Kg O s1) (ah.aY (λz=>z= !((hG P.nest).isSome&&lH P)) (λj E=>?_) λz c=>?_))
   ·cases w:hG P.nest with
    |none=>exact dt (E _ (by rw[w];rfl))
    |some b=>
     refine cj ?_;have hw:fL n (P.body.length:Int) 1 4=some (decide (1<=P.body.length/\P.body.length<=4)):=by
      rw[jT];congr 1;exact decide_eq_decide.2 O
     refine ai hw ?_;have bl:=KO (n:=n) (f:=λnk=>r8 n nk P) (p:=λs=> !eK s (P.nest.length:Int)) (l:=P.body) (λs M=>by unfold r8;rw[Ks O (WX s M)];rfl) O O;have e:(P.body.any λs=> !eK s (P.nest.length:Int))= !(P.body.all λs=>eK s (P.nest.length:Int)):=by rw[pe];simp
     cases N:decide (1<=P.body.length/\P.body.length<=4) with
     |false=>exact dt (E _ (by unfold lH;rw[w,N];rfl))
     |true=>exact cj (ai bl (E _ (by unfold lH;rw[w,N,e];rfl)))
   subst c;cases w:hG P.nest with
   |none=>exact ah.some (a (r (by unfold eB;rw[w];rfl)))
   |some b=>
    obtain⟨gj,X7,Vq,Vr,Vs⟩:=oi w;have S:hR P=b:=by unfold hR;rw[w];rfl
    cases D:lH P with
    |false=>exact ah.some (a (r (by unfold eB;rw[D];simp)))
    |true=>
     have A:=D;simp only[lH,Bool.and_eq_true,decide_eq_true_eq,List.all_eq_true] at A;obtain⟨⟨kE,Hd⟩,UE⟩:=A;have F:eB p.bb P=P.body.all (λs=>b.all λq=>fN p.bb s q&&hX q):=by
      unfold eB;rw[w,D,S];rfl
     let row:List Int->List cy:=λq=>(List.range P.body.length).map fun(k:Nat)=>(⟨(i:Int),(k:Int),q⟩:cy)
     have hrl: ∀q,(row q).length=P.body.length:=λq=>by simp[row]
     have o:lb i P=b.flatMap row:=by unfold lb;rw[S]
     refine cj ?_;rw[show(oh (some b)).1=b from rfl];refine ah.loop (λy:List cy×Int=> ∃k:Nat,y.2=k/\k<=b.length/\y.1=x++(b.take k).flatMap row/\ ∀(t:Nat) q,t<k->b[t]? =some q->hX q=true/\ ∀s∈P.body,fN p.bb s q=true) (λy=>b.length-y.2.toNat) ?_ n _ ⟨0,rfl,O,aV,λt q h=>O⟩ Z;rintro U ⟨y,z⟩ ⟨k,c,hk,G,H⟩ V;dsimp only at c G H⊢;subst c;refine bc (λhlt2=>?_) λXY=>?_
     ·have v:=bh (O:k<b.length);have K:=bA v;generalize AU:b[k]=Q at*;have Y:=Vq _ K;have Vt:Q.length<=4:=by have:=Y.1;have:=Y.2.1;omega
      refine ai (bI v) (ai (LJ O O) ?_);have VN:y.length<=480*4+480:=by
       rw[G,dw,ub row _ hrl,dP]
       have:min k b.length*P.body.length<=120*4:=ml O Hd;omega
      cases HJ:hX Q with
      |false=>
       refine dt (ah.some (a (r ?_)));rw[F];obtain⟨BZ,Vy⟩: ∃BZ,BZ∈P.body:=List.exists_mem_of_length_pos O;refine ha.2 ⟨BZ,Vy,?_⟩;rw[ha.2 ⟨Q,K,by rw[HJ];simp⟩];simp
      |true=>
       refine cj ?_;refine ah.loop (λu:List cy×Int=> ∃m:Nat,u.2=m/\m<=P.body.length/\u.1=y++(List.range m).map (fun(k:Nat)=>(⟨(i:Int),(k:Int),Q⟩:cy))/\ ∀(t:Nat) s,t<m->P.body[t]? =some s->fN p.bb s Q=true) (λu=>P.body.length-u.2.toNat) ?_ n _ ⟨0,rfl,O,aV,λt s h=>O⟩ Z;rintro XK ⟨u,z⟩ ⟨m,c,k9,hu,L⟩ Vu;dsimp only at c hu L⊢;subst c;refine bc (λX4=>?_) λXZ=>?_
       ·have R:=bh (O:m<P.body.length);have B:=bA R;refine ai (bI R) (ai (MM O ch cA (UE _ B) Y) ?_);cases Hm:fN p.bb P.body[m] Q with
        |false=>
         refine dt (ah.some (a (r ?_)));rw[F];refine ha.2 ⟨_,B,?_⟩;rw[ha.2 ⟨Q,K,by rw[Hm];simp⟩];simp
        |true=>
         have hcl:ht Q=some Q:=by unfold ht;rw[bn O]
         have l2:u.length<=480*4+480+4:=by rw[hu];simp;omega
         refine cj (ai hcl (ai (ek b1) ?_));rw[a' O];refine Vu _ ⟨m+1,Z,O,?_,λt s C W=>?_⟩ Z
         ·dsimp only;rw[hu,Jq,ix]
         by_cases VF:t=m
         ·subst VF;rw[R] at W;cases W;exact Hm
         exact L t s O W
       have Vd:m=P.body.length:=O
       rw[a' O];refine V _ ⟨k+1,Z,O,?_,λt q C X=>?_⟩ Z
       ·dsimp only;rw[eF,v,lx,<-ix,<-G,hu,Vd];simp[row]
       by_cases VE:t=k
       ·subst VE;rw[v] at X;cases X;refine⟨HJ,λs M=>?_⟩;obtain⟨jA,HN⟩:=iw M
        have:=(bt.1 HN).1;exact L jA s O HN
       exact H t q O X
     have Ht:k=b.length:=O
     have HI:eB p.bb P=true:=by
      rw[F];refine gv.2 λs M=>gv.2 λq Y=>?_;obtain⟨t,C⟩:=iw Y
      have:=(bt.1 C).1;obtain⟨g1,g2⟩:=H t q O C;rw[g1,g2 s M];rfl
     have UH:=yA HI;have A2:=Bq i P;rw[a' O];refine bH _ ⟨i+1,Z,O,?_,?_,λt y C g=>?_⟩ Z
     ·dsimp only;rw[Bs bE,o,G,Ht,dA,hx]
     ·dsimp only;rw[G,Ht,dA,dw,<-o];omega
     by_cases VD:t=i
     ·subst VD;rw[bE] at g;cases g;exact HI
     exact I t y O g
  have UX:i=p.parts.length:=O
  have hall:iS p=true:=by
   rw[d];exact gv.2 (λy G=>by
    obtain⟨t,C⟩:=iw G
    have:=(bt.1 C).1;exact I t y O C)
  rw[<-iI,bn hall,hx,UX,dA];congr 1;exact decide_eq_decide.2 O
theorem vI(a:7700000<=n)(b:jc p):sN n p=some (da p):=by
 unfold sN;rw[Jr a b];unfold da;cases h:iS p with
 |false=>rfl
 |true=>
  rw[bn rfl];show some (decide _)=_;rw[hB];congr 1
  have:=Br p.parts;exact decide_eq_decide.2 O
theorem gS(h:da p=true):p.bb.length<=4/\kM p.bb/\p.parts.length<=4/\(∀x∈p.parts,eB p.bb x=true)/\(cB p.parts).length<=120:=by
 simp only[da,iS,Bool.and_eq_true,decide_eq_true_eq,List.all_eq_true] at h;obtain⟨⟨c,d,e⟩,i⟩:=h;obtain⟨a,b⟩:=zI c
 have:=Br p.parts;exact⟨a,b,d,e,O⟩
theorem t8(cn:7700000<=n)(U:da p=true):sQ n p=some (cB p.parts):=by
 obtain⟨ch,cA,h4,B,V⟩:=gS U;refine ah.eq ?_;unfold sQ;refine ah.loop (λx:List cy×Int=> ∃i:Nat,x.2=i/\i<=p.parts.length/\x.1=cB (p.parts.take i)/\x.1.length<=480*i) (λx=>p.parts.length-x.2.toNat) ?_ n _ ⟨0,rfl,O,by simp[cB],aV⟩ Z;rintro C ⟨x,z⟩ ⟨i,b,aD,D,F⟩ Y;dsimp only at b D F⊢;subst b;refine bc (λhlt=>?_) λj0=>ah.some ?_
 ·have bE:=bh (O:i<p.parts.length);have hm:=bA bE;have d:=B _ hm;generalize sr:p.parts[i]=P at*;obtain⟨jy,q2,nl,Ii⟩:=kI d;obtain⟨j,G,H,e,K⟩:=oi jy;generalize L:hR P=t at*;have UH:=yA d;have E:=Bq i P;let row:List Int->List cy:=λq=>(List.range P.body.length).map fun(k:Nat)=>(⟨(i:Int),(k:Int),q⟩:cy)
  have R: ∀q,(row q).length=P.body.length:=λq=>by simp[row]
  have a:lb i P=t.flatMap row:=by unfold lb;rw[L]
  refine ai (bI bE) (jY (B' j P.nest n 0 [] [] (by have:=j.1;omega) rfl O tm K aV) λr ⟨o1,q3⟩=>?_);have W:r=t:=by rw[o1 (by rw[<-e];simpa using G),e];rfl
  subst W;refine ah.loop (λy:List cy×Int=> ∃k:Nat,y.2=k/\k<=r.length/\y.1=x++(r.take k).flatMap row) (λy=>r.length-y.2.toNat) ?_ n _ ⟨0,rfl,O,aV⟩ Z;rintro h ⟨y,z⟩ ⟨k,b,hk,l⟩ o;dsimp only at b l⊢;subst b;refine bc (λI=>?_) λM=>?_
  ·have c:=bh (O:k<r.length);have X:=bA c;generalize AU:r[k]=Q at*;have N:=H _ X;have Vt:Q.length<=4:=by have:=N.1;have:=N.2.1;omega
   have VN:y.length<=480*4+480:=by
    rw[l,dw,ub row _ R,dP]
    have:min k r.length*P.body.length<=120*4:=ml O q2.2;omega
   refine ah.loop (λu:List cy×Int=> ∃m:Nat,u.2=m/\m<=P.body.length/\u.1=y++(List.range m).map (fun(k:Nat)=>(⟨(i:Int),(k:Int),Q⟩:cy))) (λu=>P.body.length-u.2.toNat) ?_ n _ ⟨0,rfl,O,aV⟩ Z;rintro s ⟨u,z⟩ ⟨m,b,k9,A⟩ v;dsimp only at b A⊢;subst b;refine bc (λS=>?_) λT=>?_
   ·have l2:u.length<=480*4+480+4:=by rw[A];simp;omega
    refine ai (bI c) (ai (jQ _ O) (ai (ek b1) ?_));rw[a' O];refine v _ ⟨m+1,Z,O,?_⟩ Z;dsimp only;rw[A,Jq,ix]
   have f:m=P.body.length:=O
   rw[a' O];refine o _ ⟨k+1,Z,O,?_⟩ Z;dsimp only;rw[eF,c,lx,<-ix,<-l,A,f];simp[row]
  have w:k=r.length:=O
  rw[a' O];refine Y _ ⟨i+1,Z,O,?_,?_⟩ Z
  ·dsimp only;rw[Bs bE,a,l,w,dA,D]
  dsimp only;rw[l,w,dA,dw,<-a];omega
 have g:i=p.parts.length:=O
 rw[D,g,dA]
def hZ:Nat->List bW->List Int->Expr->List Int->Int
 |0,_,_,_,_=>0
 |L+1,c,m,e,q=>
  if e.kind=1 then e.num
  else if e.kind=2 then eL e.index q%1000
  else if e.kind=3 then m.getD (dN c e.read q 0).toNat 0
  else match e.aJ with
   | [a,b]=>if e.kind=4 then(hZ L c m a q+hZ L c m b q)%1000 else if e.kind=5 then(hZ L c m a q-hZ L c m b q)%1000 else(hZ L c m a q*hZ L c m b q)%1000
   |_=>0
def oc(a:List bW)(m:List Int):Prop:=(m.length:Int)=lB a/\ ∀x∈m,0<=x/\x<=999
theorem Sf(h:oc r m)(i:Nat):0<=m.getD i 0/\m.getD i 0<=999:=by
 rw[fs];cases a:m[i]? with
 |none=>simp
 |some x=>exact h.2 x (bA a)
theorem SR(b:oc r m): ∀{L:Nat} {e:Expr},dR L e d=true->0<=hZ L r m e q/\hZ L r m e q<=999
 |0,e,h=>by cases h
 |L+1,e,h=>by
  obtain⟨c,a,i⟩:=jq h;simp only[hZ];split
  ·rename_i b6;unfold eS at a;rw[br O,br O,bn b6] at a;simp only[Bool.and_eq_true,decide_eq_true_eq] at a;omega
  split
  ·omega
  split
  ·exact Sf b _
  split
  ·split
   ·omega
   split<;>omega
  omega
def fO(p:Prog)(x:cy):Prop:= ∃(i k:Nat) (P:Part) (s:Stmt),x.part=i/\x.stmt=k/\p.parts[i]? =some P/\P.body[k]? =some s/\x.cP∈hR P
def pv(p:Prog)(x:cy):Option Stmt:=(p.parts[x.part.toNat]?).bind λP=>P.body[x.stmt.toNat]?
def hv(p:Prog)(m:List Int)(x:cy):List Int:=match pv p x with
 |some s=>m.set (dN p.bb s.write x.cP 0).toNat (hZ 5 p.bb m s.value x.cP)
 |none=>m
theorem sP(n:da p=true){x:cy}(o:fO p x): ∃(i k:Nat) (P:Part) (s:Stmt) (d:Int),x.part=i/\x.stmt=k/\p.parts[i]? =some P/\P.body[k]? =some s/\pv p x=some s/\eK s d=true/\fV P.nest.length x.cP/\fN p.bb s x.cP=true:=by obtain⟨B,C,D,a,q⟩:=gS n;obtain⟨i,k,P,s,h,l,b,c,m⟩:=o;obtain⟨r,F,v,w⟩:=kI (a P (bA b));obtain⟨G,y,e,z,A⟩:=oi r;have hs:=bA c;exact⟨i,k,P,s,_,h,l,b,c,by unfold pv;rw[h,l,fX,b];exact(by rw[fX];exact c),v s hs,e _ m,(w s hs _ m).1⟩
theorem zg(h:fN r s q=true):0<=dN r s.write q 0/\ ∀a∈ej 5 s.value,0<=dN r a q 0:=by simp only[fN,Bool.and_eq_true,decide_eq_true_eq,List.all_eq_true] at h;exact h
theorem u5{k:Type}{l:List k}{c:Int}(a:0<=c)(h:c.toNat<l.length):aH l c=some l[c.toNat]:=by unfold aH;rw[bn a,List.getElem?_eq_getElem h]
theorem FF(c:da p=true)(a:oc p.bb m){x:cy}(e:fO p x):oc p.bb (hv p m x):=by
 obtain⟨i,k,P,s,d,o,q,r,w,l,n,y,z⟩:=sP c e;unfold hv;rw[l];refine⟨by rw[pg];exact a.1,λv b=>?_⟩;rcases re b with h|h
 ·exact a.2 v h
 rw[h];exact SR a (j7 n).2.1
theorem lf{x:cy}(h:x∈cB l): ∃(i k:Nat) (P:Part) (s:Stmt),x.part=i/\x.stmt=k/\l[i]? =some P/\P.body[k]? =some s/\x.cP∈hR P:=by unfold cB at h;rw[List.mem_flatMap] at h;obtain⟨⟨P,i⟩,c,a⟩:=h;unfold lb at a;rw[List.mem_flatMap] at a;obtain⟨q,d,b⟩:=a;rw[fY] at b;obtain⟨k,e,rfl⟩:=b;have m:=rb.1 e;exact⟨i,k,P,P.body[k],rfl,rfl,xe.1 c,bh m,d⟩
def j8(p:Prog)(m:List Int)(l:List cy):List Int:=l.foldl (hv p) m
end
section
def hb(B:Nat)(a:az):Prop:=a.ak.length<=B
def h8(B:Nat)(l:List az):Prop:=l.length<=B/\ ∀a∈l,hb B a
def nT(B:Nat)(a:List Loop):Prop:=a.length<=B/\ ∀l∈a,h8 B l.bg/\h8 B l.aD
def h'(B:Nat):Nat->Expr->Prop
 |0,_=>False
 |L+1,e=>e.aJ.length<=B/\hb B e.index/\h8 B e.read.al/\ ∀k∈e.aJ,h' B L k
def kV(B:Nat)(s:Stmt):Prop:=h8 B s.write.al/\h' B 5 s.value
def kq(B:Nat)(x:Part):Prop:=nT B x.nest/\x.body.length<=B/\ ∀s∈x.body,kV B s
def rz(B:Nat)(l:List bW):Prop:=l.length<=B/\ ∀x∈l,x.bp.length<=B
def gM(B:Nat)(p:Prog):Prop:=rz B p.bb/\p.parts.length<=B/\ ∀x∈p.parts,kq B x
variable {B C n:Nat}{s:Stmt}{p:Prog}{k R:Type}{K:List k->Option R}{Q:R->Prop}{l:List k}
theorem hb.mono(h:B<=C){a:az}(b:hb B a):hb C a:=dS b h
theorem h8.mono(h:B<=C){l:List az}(b:h8 B l):h8 C l:=⟨dS b.1 h,λa c=>(b.2 a c).mono h⟩
theorem nT.mono(h:B<=C){l:List Loop}(b:nT B l):nT C l:=⟨dS b.1 h,λa c=>⟨(b.2 a c).1.mono h,(b.2 a c).2.mono h⟩⟩
theorem h'.mono{B C:Nat}(h:B<=C): ∀{L M:Nat} {e:Expr},L<=M->h' B L e->h' C M e
 |0,_,_,_,a=>a.elim
 |L+1,0,_,b,_=>O
 |L+1,M+1,e,b,a=>⟨dS a.1 h,a.2.1.mono h,a.2.2.1.mono h,λk c=>h'.mono h O (a.2.2.2 k c)⟩
theorem kV.mono(h:B<=C)(a:kV B s):kV C s:=⟨a.1.mono h,a.2.mono h (cL _)⟩
theorem kq.mono(h:B<=C){s:Part}(a:kq B s):kq C s:=⟨a.1.mono h,dS a.2.1 h,λs b=>(a.2.2 s b).mono h⟩
theorem rz.mono(h:B<=C){s:List bW}(a:rz B s):rz C s:=⟨dS a.1 h,λs b=>dS (a.2 s b) h⟩
theorem gM.mono(h:B<=C)(a:gM B p):gM C p:=⟨a.1.mono h,dS a.2.1 h,λs b=>(a.2.2 s b).mono h⟩
theorem h8.sm{l:List az}(h:h8 1100000 l):ja l:=⟨h.1,h.2⟩
theorem h'.sm: ∀{L:Nat} (j:Nat) {e:Expr},h' 1100000 L e->pE j e
 |_,0,_,_=>trivial
 |0,_+1,_,h=>h.elim
 |L+1,j+1,e,h=>⟨h.1,h.2.1,h.2.2.1.sm,λk a=>h'.sm j (h.2.2.2 k a)⟩
theorem kV.sm(h:kV 1100000 s):uI s:=⟨h.1.sm,h.2.sm 5⟩
theorem nT.sm{l:List Loop}(h:nT 1100000 l):pF l:=⟨h.1,λx a=>⟨(h.2 x a).1.sm,(h.2 x a).2.sm⟩⟩
theorem kq.sm{x:Part}(h:kq 1100000 x):zJ x:=⟨h.1.sm,h.2.1,λs a=>(h.2.2 s a).sm⟩
theorem gM.sm(h:gM 1100000 p):jc p:=⟨⟨h.1.1,h.1.2⟩,h.2.1,λx a=>(h.2.2 x a).sm⟩
theorem Qw(n:Nat)(c:Int):yl n c=some ⟨[0,0,0,0],c⟩:=rfl
theorem yy{h:Type}{f:k->Option h}{g:k->h->k}(e: ∀x∈l,∃z,f x=some z/\g x z=x)(v:l.length<=1100000)(A:5500000<=n)(m:ah (K l) Q):
  ah (ba (λa ((x,i):List k×Int)=>bif decide (i<(l.length:Int)) then(Option.bind (aH l i) λy=>Option.bind (f y) λz=>Option.bind (app x [g y z]) λw=>a (w,wr (i+1))) else K x) n ([],0)) Q:=by
 refine ah.loop (λz:List k×Int=> ∃i:Nat,z.2=i/\i<=l.length/\z.1=l.take i) (λz=>l.length-z.2.toNat) ?_ n _ ⟨0,rfl,O,aV⟩ Z;rintro a ⟨x,z⟩ ⟨i,d,B,b⟩ o;dsimp only at d b⊢;subst d;refine bc (λp=>?_) λq=>?_
 ·have bE:=bh (O:i<l.length);have r:x.length<=1100000:=by rw[b,dP];omega
  obtain⟨y,s,c⟩:=e _ (bA bE);refine ai (bI bE) (ai s (ai (ek b1) ?_));rw[a' O];refine o _ ⟨i+1,Z,O,?_⟩ Z;dsimp only;rw[eF,bE,b,c];rfl
 have:i=l.length:=O
 rw[b,this,dA];exact m
theorem jX{f:k->Option k}(b: ∀x∈l,f x=some x)(c:l.length<=1100000)(d:5500000<=n)(e:ah (K l) Q):
  ah (ba (λa ((x,i):List k×Int)=>bif decide (i<(l.length:Int)) then(Option.bind (aH l i) λy=>Option.bind (f y) λz=>Option.bind (app x [z]) λw=>a (w,wr (i+1))) else K x) n ([],0)) Q:=
 yy (g:=λ_ z=>z) (λx h=>⟨x,b x h,rfl⟩) c d e
theorem De: ∀(L n:Nat) (e:Expr),5500000+L<=n->h' 1100000 L e->np (n+1) e=some e
 |0,_,_,_,h=>h.elim
 |L+1,n,e,l,h=>by
  obtain⟨a,b,c,d⟩:=h;unfold np;refine ah.eq (ai (DF n b) (ai (CG O c.sm) ?_));obtain⟨n,rfl⟩: ∃j,n=j+1:=⟨n-1,O⟩
  exact jX (f:=np (n+1)) (K:=λi=>some (⟨e.kind,e.num,e.index,e.read,i⟩:Expr)) (λx k=>De L n x O (d x k)) a O (ah.some (by cases e;rfl))
theorem MS(a:6600000<=n)(h:kV 1100000 s):qX n s=some s:=by
 obtain⟨n,rfl⟩: ∃j,n=j+1:=⟨n-1,O⟩
 unfold qX;rw[CG O h.1.sm,De 5 n s.value O h.2];rfl
theorem MT(Q:6600000<=n){nest:List Loop}(h:nT 1100000 nest):t6 n nest=some nest:=by
 obtain⟨R,A⟩:=h;refine ah.eq ?_;unfold t6;refine ah.loop (λz:List Loop×Int=> ∃i:Nat,z.2=i/\i<=nest.length/\z.1=nest.take i) (λz=>nest.length-z.2.toNat) ?_ n _ ⟨0,rfl,O,aV⟩ Z;rintro b ⟨x,z⟩ ⟨i,d,W,e⟩ B;dsimp only at d e⊢;subst d;refine bc (λC=>?_) λD=>ah.some ?_
 ·have bE:=bh (O:i<nest.length);obtain⟨⟨X,F⟩,⟨b6,b0⟩⟩:=A _ (bA bE);have G:x.length<=1100000:=by rw[e,dP];omega
  refine ah.loop (λz:List az×Int=> ∃t:Nat,z.2=t/\t<=nest[i].bg.length/\z.1=nest[i].bg.take t) (λz=>nest[i].bg.length-z.2.toNat) ?_ n _ ⟨0,rfl,O,aV⟩ Z;rintro k ⟨y,z⟩ ⟨t,d,j,m⟩ o;dsimp only at d m⊢;subst d;refine ai (bI bE) (bc (λv=>?_) λw=>?_)
  ·have c:=bh (O:t<nest[i].bg.length);have H:y.length<=1100000:=by rw[m,dP];omega
   refine ai (bI c) (ai (jQ _ (F _ (bA c))) (ai (ek b1) ?_));rw[a' O];refine o _ ⟨t+1,Z,O,?_⟩ Z;dsimp only;rw[eF,c,m];rfl
  have p:t=nest[i].bg.length:=O
  refine yy (l:=nest[i].aD) (f:=λa:az=>app [] a.ak) (g:=λa q=>(⟨q,a.const⟩:az)) (K:=λr=>Option.bind (app x [(⟨y,r⟩:Loop)]) λs=>b (s,wr ((i:Int)+1))) (λa L=>⟨_,jQ _ (b0 a L),rfl⟩) b6 O ?_;refine ai (ek b1) ?_;rw[a' O];refine B _ ⟨i+1,Z,O,?_⟩ Z;dsimp only;rw[eF,bE,e,m,p,dA];rfl
 have:i=nest.length:=O
 rw[e,this,dA]
theorem Dd(C:6600000<=n)(h:gM 1100000 p):tH n p=some p:=by
 obtain⟨⟨ay,a2⟩,M,G⟩:=h;refine ah.eq ?_;unfold tH;refine yy (n:=n) (l:=p.bb) (f:=λr:bW=>app [] r.bp) (g:=λr H=>(⟨r.name,H⟩:bW)) (K:=λL=>ba (λb ((D,v):(List Part)×Int)=>
    bif decide (v<(p.parts.length:Int)) then(
     Option.bind (aH p.parts v) λe=>
     Option.bind (t6 n e.nest) λw=>
     ba (λc ((d,k):(List Stmt)×Int)=>
      bif decide (k<(e.body.length:Int)) then(
       Option.bind (aH e.body k) λy=>
       Option.bind (qX n y) λA=>
       Option.bind (app d [A]) λB=>
       c (B,wr (k+1))
      ) else(
       Option.bind (app D [(⟨w,d⟩:Part)]) λm=>
       b (m,wr (v+1))
      )
     ) n ([],0)
    ) else(
     some (⟨L,D⟩:Prog)
    )
   ) n ([],0)) (λa Q=>⟨_,jQ _ (a2 a Q),rfl⟩) ay O ?_
 refine ah.loop (λz:List Part×Int=> ∃i:Nat,z.2=i/\i<=p.parts.length/\z.1=p.parts.take i) (λz=>p.parts.length-z.2.toNat) ?_ n _ ⟨0,rfl,O,aV⟩ Z;rintro o ⟨x,z⟩ ⟨i,F,N,q⟩ R;dsimp only at F q⊢;subst F;refine bc (λW=>?_) λX=>ah.some ?_
 ·have bE:=bh (O:i<p.parts.length);obtain⟨j,t,u⟩:=G _ (bA bE);have E:x.length<=1100000:=by rw[q,dP];omega
  refine ai (bI bE) (ai (MT C j) ?_);refine jX (f:=qX n) (K:=λd=>Option.bind (app x [(⟨p.parts[i].nest,d⟩:Part)]) λm=>o (m,wr ((i:Int)+1))) (λs I=>MS C (u s I)) t O ?_;refine ai (ek b1) ?_;rw[a' O];refine R _ ⟨i+1,Z,O,?_⟩ Z;dsimp only;rw[eF,bE,q];rfl
 have:i=p.parts.length:=O
 rw[q,this,dA]
theorem zn{i:Nat}{x:k}{P:k->Prop}(h: ∀y∈l,P y)(b:P x): ∀y∈l.set i x,P y:=λy c=>by
 rcases re c with a|a
 ·exact h y a
 rw[a];exact b
theorem hQ{i:Int}(h:0<=i/\i<l.length)(x:k):dh l i x=some (l.set i.toNat x):=by unfold dh;rw[bn h]
end
variable {k R:Type}{l:List cy}{i n:Nat}{x a b:cy}{p:Prog}{f:k->R}
theorem k3{l:List k}{x:k}(h:l[i]? =some x):l.take (i+1)=l.take i++[x]:=by rw[eF,h];rfl
def dI(p:Prog)(x:cy):Nat:=match pv p x with
 |some s=>(dN p.bb s.write x.cP 0).toNat
 |none=>0
def rc(p:Prog)(x:cy):List Int:=match pv p x with
 |some s=>(ej 5 s.value).map (λa=>dN p.bb a x.cP 0)
 |none=>[]
def pk(p:Prog)(m:List Int)(x:cy):Int:=match pv p x with
 |some s=>hZ 5 p.bb m s.value x.cP
 |none=>0
theorem E8{list:List bW}(b:kM list){a:bR}{q:List Int}(h:0<=dN list a q 0):dN list a q 0<lB list:=by rcases E9 b a q 0 (fZ 0) with bl|bl<;>omega
theorem vK(b:da p=true)(n:fO p x):(dI p x:Int)<lB p.bb/\(∀c∈rc p x,0<=c/\c<lB p.bb)/\(rc p x).length<=12/\ ∀m,hv p m x=m.set (dI p x) (pk p m x):=by obtain⟨i,k,P,s,d,B,C,D,F,o,q,G,r⟩:=sP b n;obtain⟨H,e,K,v,w⟩:=gS b;obtain⟨y,h⟩:=zg r;obtain⟨L,Q,R,z⟩:=j7 q;unfold dI rc pk hv;rw[o];dsimp only;refine⟨by have:=E8 e y;omega,λc A=>?_,by rw[dL];exact z,λm=>rfl⟩;obtain⟨a,l,rfl⟩:=fY.1 A;exact⟨h a l,E8 e (h a l)⟩
theorem LI(u:7810000<=n)(l:da p=true)(w:fO p x):vH n p x=some (rc p x,(dI p x:Int)):=by
 obtain⟨i,k,P,s,d,y,A,B,C,m,D,o,F⟩:=sP l w;obtain⟨q,r,E,G,H⟩:=gS l;obtain⟨I,M⟩:=zg F;obtain⟨K,L,Q,N⟩:=j7 D;obtain⟨n,rfl⟩: ∃j,n=j+1:=⟨n-1,O⟩
 have c:vO (n+1) p x=some s:=by
  unfold vO;rw[y,A,bI B];show Option.bind (aH P.body (k:Int)) _=_;rw[bI C];rfl
 have W:(dI p x:Int)=dN p.bb s.write x.cP 0:=by unfold dI;rw[m];dsimp only;omega
 have X:rc p x=(ej 5 s.value).map (λa=>dN p.bb a x.cP 0):=by unfold rc;rw[m]
 rw[W,X];refine ah.eq ?_;unfold vH;refine ai c (ai (CA (d:=d) 5 n s.value O O L) ?_);generalize S:ej 5 s.value=R at*;refine ah.loop (λz:List Int×Int=> ∃i:Nat,z.2=i/\i<=R.length/\z.1=(R.take i).map λa=>dN p.bb a x.cP 0) (λz=>R.length-z.2.toNat) ?_ (n+1) _ ⟨0,rfl,O,aV⟩ Z;rintro h ⟨out,z⟩ ⟨i,v,T,b⟩ f;dsimp only at v b⊢;subst v;refine bc (λg=>?_) λt=>?_
 ·have bE:=bh (O:i<R.length);refine ai (bI bE) (ai (xy O q r (Q _ (bA bE)) o) (ai (ek (by rw[b,dL,dP,pf];omega)) ?_));rw[a' O];refine f _ ⟨i+1,Z,O,?_⟩ Z;dsimp only;rw[k3 bE,jC,b];rfl
 have e:i=R.length:=O
 refine ai (xy O q r K o) (ah.some ?_);rw[b,e,dA]
theorem O1(D:7810000<=n)(b:da p=true)(h:fO p x): ∃P s,aH p.parts x.part=some P/\aH P.body x.stmt=some s/\qK n p.bb s x.cP=some (rc p x,(dI p x:Int),true):=by
 obtain⟨i,k,P,s,d,l,m,o,q,c,r,v,e⟩:=sP b h;obtain⟨w,y,F,z,A⟩:=gS b;obtain⟨G,H⟩:=zg e;have B:(dI p x:Int)=dN p.bb s.write x.cP 0:=by unfold dI;rw[c];dsimp only;omega
 have C:rc p x=(ej 5 s.value).map (λa=>dN p.bb a x.cP 0):=by unfold rc;rw[c]
 refine⟨P,s,by rw[l];exact bI o,by rw[m];exact bI q,?_⟩;rw[JW O w y r v,bn e,B,C]
theorem DP{r:List bW}{m l:List Int}{q:List Int}{d:Int}: ∀{L:Nat} {e:Expr},dR L e d=true->(∀a∈ej L e,m.getD (dN r a q 0).toNat 0=l.getD (dN r a q 0).toNat 0)->hZ L r m e q=hZ L r l e q
 |0,e,h,_=>by cases h
 |L+1,e,h,n=>by
  obtain⟨v,w,p⟩:=jq h;simp only[hZ];split
  ·rfl
  split
  ·rfl
  split
  ·rename_i dH;exact n _ (by simp[ej,dH])
  have i: ∀c∈e.aJ,hZ L r m c q=hZ L r l c q:=λc o=>
   DP (p c o) λa s=>n a (by simp only[ej,List.mem_append,List.mem_flatMap];exact .inr ⟨c,o,s⟩)
  split
  ·rename_i a b k;rw[k] at i;rw[i a aV,i b aV]
  rfl
theorem Rt(b:da p=true)(l:fO p x){m e:List Int}(h: ∀c∈rc p x,m.getD c.toNat 0=e.getD c.toNat 0):pk p m x=pk p e x:=by obtain⟨i,k,P,s,d,r,v,w,y,n,o,z,A⟩:=sP b l;unfold pk;unfold rc at h;rw[n] at h⊢;exact DP (j7 o).2.1 λa q=>h _ (List.mem_map_of_mem q)
theorem P8(l:List k)(i j:Nat)(x d:k):(l.set i x).getD j d=if i=j/\i<l.length then x else l.getD j d:=by
 rw[fs,fs,List.getElem?_set];split
 ·rename_i h;subst h;split
  ·rename_i a;rw[bn ⟨rfl,a⟩];rfl
  rename_i a;rw[br O,List.getElem?_eq_none O]
 rename_i h;rw[br λa=>h a.1]
theorem LK(b:7700000<=n)(c:jc p): ∃L,p4 n p=some (L,da p)/\(da p=true->L=cB p.parts):=by
 rw[Jr b c];cases a:iS p with
 |false=>
  refine⟨[],?_,λh=>?_⟩
  ·rw[br aV,show da p=false by unfold da;rw[a];rfl]
  unfold da at h;rw[a] at h;cases h
 |true=>
  refine⟨cB p.parts,?_,λ_=>rfl⟩;rw[bn rfl,show da p=decide ((cB p.parts).length<=120) by
   unfold da;rw[a,Bool.true_and];exact decide_eq_decide.2 (by have:=Br p.parts;omega)]
theorem TF{n:Int}(h:0<=n/\n<=1000000000)(x:k):mk n x=some (List.replicate n.toNat x):=by unfold mk;rw[bn h]
def pick(l:List cy)(o:List Int):List cy:=o.filterMap λc=>l[c.toNat]?
def TV(p:Prog)(a b:cy):Prop:=(dI p a:Int)∈rc p b\/(dI p b:Int)∈rc p a\/dI p a=dI p b
def Ax(p:Prog)(a b:cy):Prop:= ∀m,oc p.bb m->hv p (hv p m a) b=hv p (hv p m b) a
theorem FT(a:da p=true)(d:fO p b){w:Nat}(h:(w:Int)∉rc p b)(m:List Int)(v:Int):pk p (m.set w v) b=pk p m b:=by refine Rt a d λc i=>?_;have k:=(vK a d).2.1 c i;rw[P8,br];rintro⟨e,_⟩;exact h (by rw[e,tP k.1];exact i)
theorem swap(c:da p=true)(d:fO p a)(i:fO p b)(h: ¬TV p a b):Ax p a b:=by intro m _;have n:(dI p a:Int)∉rc p b:=λe=>h (.inl e);have o:(dI p b:Int)∉rc p a:=λe=>h (.inr (.inl e));have q:dI p a≠dI p b:=λe=>h (.inr (.inr e));have k:=(vK c d).2.2.2;have l:=(vK c i).2.2.2;rw[k,l,l,k,FT c i n,FT c d o,List.set_comm _ _ q]
def lF(p:Prog)(a b:cy):Int:=(if(dI p a:Int)∈rc p b then 1 else 0)+(if(dI p b:Int)∈rc p a then 2 else 0)+(if dI p a=dI p b then 4 else 0)
theorem Sy(p:Prog)(a b:cy):0<=lF p a b/\lF p a b<=7:=by unfold lF;split<;>split<;>split<;>omega
def j6(p:Prog)(l:List cy)(i k:Nat):Int:=match l[i]?,l[k]? with
 |some a,some b=>lF p a b
 |_,_=>0
theorem zr{k:Nat}(c:l[i]? =some a)(d:l[k]? =some b):j6 p l i k=lF p a b:=by unfold j6;rw[c,d]
theorem Ts(p:Prog)(l:List cy)(i k:Nat):0<=j6 p l i k/\j6 p l i k<=7:=by
 unfold j6;split
 ·exact Sy _ _ _
 omega
def iN(p:Prog)(l:List cy)(i j:Nat):List fb:=((List.range j).filter λk=>decide (i<k)&&decide (j6 p l i k≠0)).map (fun(k:Nat)=>(⟨(i:Int),(k:Int),j6 p l i k⟩:fb))
def fR(p:Prog)(l:List cy)(n:Nat):List fb:=(List.range n).flatMap λi=>iN p l i l.length
theorem wD(p:Prog)(l:List cy){j:Nat}(h:i<j):iN p l i (j+1)=iN p l i j++(if j6 p l i j=0 then [] else [⟨(i:Int),(j:Int),j6 p l i j⟩]):=by
 unfold iN;rw[pj,List.filter_append,jC];congr 1;split
 ·rename_i e;simp[e]
 rename_i e;simp[e,h]
theorem CE(p:Prog)(l:List cy)(i:Nat): ∀j,j<=i+1->iN p l i j=[]
 |0,_=>rfl
 |j+1,h=>by have a:=CE p l i j O;unfold iN at a⊢;rw[pj,List.filter_append,jC,a];simp[show¬i<j by omega]
theorem CD(p:Prog)(l:List cy)(n:Nat):fR p l (n+1)=fR p l n++iN p l n l.length:=by unfold fR;rw[pj,lx];simp
theorem CF(p:Prog)(l:List cy)(i j:Nat):(iN p l i j).length<=j:=by unfold iN;rw[dL];exact dS (List.length_filter_le _ _) aV
theorem xB(p:Prog)(l:List cy): ∀n,(fR p l n).length<=n*l.length
 |0=>by simp[fR]
 |n+1=>by
  rw[CD,dw,dM,Nat.one_mul]
  have:=xB p l n
  have:=CF p l n l.length;omega
theorem PY{d:fb}:d∈fR p l l.length↔ ∃i k:Nat,i<k/\k<l.length/\j6 p l i k≠0/\d=⟨(i:Int),(k:Int),j6 p l i k⟩:=by
 unfold fR iN;simp only[List.mem_flatMap,List.mem_range,List.mem_map,List.mem_filter,Bool.and_eq_true,decide_eq_true_eq];constructor
 ·rintro⟨i,c,k,⟨a,b,e⟩,rfl⟩;exact⟨i,k,b,a,e,rfl⟩
 rintro⟨i,k,c,a,b,rfl⟩;exact⟨i,O,k,⟨a,c,b⟩,rfl⟩
def places(o:List Int):Nat->List Int
 |0=>List.replicate o.length 0
 |k+1=>(places o k).set (o.getD k 0).toNat (k:Int)
theorem F9: ∀d∈fR p l l.length,0<=d.1/\d.1<d.2/\d.2<(l.length:Int):=by intro d a;obtain⟨i,k,b,c,e,rfl⟩:=PY.1 a;exact⟨by show(0:Int)<=(i:Int);omega,by show(i:Int)<(k:Int);omega,by show(k:Int)<_;omega⟩
theorem CQ{l:List Int}(o:l.length<n)(p:l.length<=1100000)(v:Int):sM n l v=some (decide (v∈l)):=by
 refine ah.eq ?_;unfold sM;refine jY (P:=λi=>decide ((0:Int)<=i)=decide (v∈l)) ?_ λx c=>ah.some c;unfold Cc;refine ah.loop (λz:Int=> ∃i:Nat,z=i/\i<=l.length/\v∉l.take i) (λz=>l.length-z.toNat) ?_ n 0 ⟨0,rfl,O,aV⟩ O;rintro b z ⟨i,rfl,q,a⟩ d;refine bc (λk=>?_) λm=>ah.some ?_
 ·have bE:=bh (O:i<l.length);refine ai (bI bE) (bc (λe=>ah.some ?_) λe=>?_)
  ·rw[bN O,bN];rw[e];exact bA bE
  rw[a' O];refine d _ ⟨i+1,O,O,?_⟩ O;rw[k3 bE,ff,rj];rintro(h|h)
  ·exact a h
  exact e h
 have e:i=l.length:=O
 rw[e,dA] at a;rw[bs O,bs a]
theorem EA{l:List Int}(m:l.length<n)(o:l.length<=1100000)(v:Int):tU n l v=some (decide (v∈l)):=by
 refine ah.eq ?_;unfold tU;refine ah.loop (λz:Int=> ∃i:Nat,z=i/\i<=l.length/\v∉l.take i) (λz=>l.length-z.toNat) ?_ n 0 ⟨0,rfl,O,aV⟩ O;rintro b z ⟨i,rfl,p,a⟩ c;refine bc (λd=>?_) λk=>ah.some ?_
 ·have bE:=bh (O:i<l.length);refine ai (bI bE) (bc (λe=>ah.some ?_) λe=>?_)
  ·rw[bN];rw[<-e];exact bA bE
  rw[a' O];refine c _ ⟨i+1,O,O,?_⟩ O;rw[k3 bE,ff,rj];rintro(h|h)
  ·exact a h
  exact e h.symm
 have e:i=l.length:=O
 rw[e,dA] at a;rw[bs a]
def lu(p:Prog):nY:=⟨p,cB p.parts,(cB p.parts).map (rc p),(cB p.parts).map λx=>(dI p x:Int)⟩
theorem tT{l:List k}{x:k}(h:l[i]? =some x):(l.map f)[i]? =some (f x):=by rw[dT,h];rfl
theorem yU{l:List k}{x:k}(h:l[i]? =some x):(l.take (i+1)).map f=(l.take i).map f++[f x]:=by rw[k3 h,jC];rfl
theorem M0(y:7810000<=n)(m:jc p):rs n p=some (if da p=true then(some (lu p),true) else(none,false)):=by
 obtain⟨L,o,q⟩:=LK (n:=n) O m;refine ah.eq ?_;unfold rs;refine ai o ?_;dsimp only;cases h:da p with
 |false=>exact ah.some rfl
 |true=>
  rw[q h];have r:=(gS h).2.2.2.2;refine cj (ah.loop (λz:List (List Int)×List Int×Int=> ∃i:Nat,z.2.2=i/\i<=(cB p.parts).length/\z.1=((cB p.parts).take i).map (rc p)/\z.2.1=((cB p.parts).take i).map λx=>(dI p x:Int)) (λz=>(cB p.parts).length-z.2.2.toNat) ?_ n _ ⟨0,rfl,O,rfl,rfl⟩ (by first|omega|(dsimp only;omega)));rintro k ⟨a,b,z⟩ ⟨i,l,A,c,d⟩ s;dsimp only at l c d⊢;subst l;refine bc (λv=>?_) λw=>ah.some ?_
  ·have bE:=bh (O:i<(cB p.parts).length);refine ai (bI bE) (ai (LI O h (lf (bA bE))) (ai (ek (by rw[c,dL,dP,pf];omega)) (ai (ek (by rw[d,dL,dP,pf];omega)) ?_)));rw[a' O];exact s _ ⟨i+1,Z,O,by dsimp only;rw[yU bE,c],by dsimp only;rw[yU bE,d]⟩ Z
  have e:i=(cB p.parts).length:=O
  rw[c,d,e,dA];rfl
def pP(p:Prog):List kr:=(cB p.parts).map λx=>(⟨rc p x,(dI p x:Int)⟩:kr)
theorem OX(k:7810000<=n)(c:da p=true):xU n p=some (pP p):=by
 have l:=(gS c).2.2.2.2;refine ah.eq ?_;unfold xU pP;refine ai (t8 O c) (ah.loop (λz:List kr×Int=> ∃i:Nat,z.2=i/\i<=(cB p.parts).length/\z.1=((cB p.parts).take i).map λx=>(⟨rc p x,(dI p x:Int)⟩:kr)) (λz=>(cB p.parts).length-z.2.toNat) ?_ n _ ⟨0,rfl,O,rfl⟩ Z);rintro d ⟨a,z⟩ ⟨i,h,y,b⟩ m;dsimp only at h b⊢;subst h;refine bc (λo=>?_) λq=>ah.some ?_
 ·have bE:=bh (O:i<(cB p.parts).length);obtain⟨P,s,r,v,w⟩:=O1 k c (lf (bA bE));refine ai (bI bE) (ai r (ai v (ai w (ai (ek (by rw[b,dL,dP,pf];omega)) ?_))));rw[a' O];exact m _ ⟨i+1,Z,O,by dsimp only;rw[yU bE,b]⟩ Z
 have e:i=(cB p.parts).length:=O
 rw[b,e,dA]
theorem uV(b:da p=true)(c: ∀x∈l,fO p x)(h:l[i]? =some a):(rc p a).length<=12:=(vK b (c _ (bA h))).2.2.1
theorem Fk{Q:R->Prop}{A B:Option Bool}(q:A=some (decide ((dI p a:Int)∈rc p b)))(r:B=some (decide ((dI p b:Int)∈rc p a))){c:Int->Option R}(h:ah (c (lF p a b)) Q):
  ah (aY (fun(m:Int)=>aY (fun(i:Int)=>aY c λk=>bif decide ((dI p a:Int)=(dI p b:Int)) then(k (wr (i+4))) else(k i))
   λn=>Option.bind B λs=>bif s then(n (wr (m+2))) else(n m))
   λo=>Option.bind A λv=>bif v then(o (wr (0+1))) else(o 0)) Q:=by
 refine ah.aY (λz=>z=if(dI p a:Int)∈rc p b then 1 else 0) (λj d=>ai q (bc (λe=>d _ (by rw[bn e];rfl)) λe=>d _ (by rw[br e]))) λz l=>?_;subst l;refine ah.aY (λz=>z=(if(dI p a:Int)∈rc p b then 1 else 0)+if(dI p b:Int)∈rc p a then 2 else 0) (λj d=>ai r (bc (λe=>d _ ?_) λe=>d _ ?_)) λz l=>?_
 ·rw[bn e];split<;>rfl
 ·rw[br e,Int.add_zero]
 subst l;refine ah.aY (λz=>z=lF p a b) (λj d=>bc (λe=>d _ ?_) λe=>d _ ?_) λz l=>by subst l;exact h
 ·unfold lF;rw[bn (O:dI p a=dI p b)];split<;>split<;>rfl
 unfold lF;rw[br (show¬dI p a=dI p b by omega),Int.add_zero]
theorem LL(r:7810000<=n)(h:da p=true){k:Nat}(c:(cB p.parts)[i]? =some a)(d:(cB p.parts)[k]? =some b):vJ n (lu p) (i:Int) (k:Int)=some (j6 p (cB p.parts) i k):=by rw[zr c d];have s:=uV h (λx e=>lf e) c;have v:=uV h (λx e=>lf e) d;have l:aH (lu p).reads (i:Int)=some (rc p a):=bI (tT c);have m:aH (lu p).reads (k:Int)=some (rc p b):=bI (tT d);have o:aH (lu p).gb (i:Int)=some (dI p a:Int):=bI (tT c);have q:aH (lu p).gb (k:Int)=some (dI p b:Int):=bI (tT d);refine ah.eq ?_;unfold vJ;rw[l,m,o,q];exact Fk (CQ O O _) (CQ O O _) (ah.some rfl)
theorem Nz(c:7810000<=n)(d:(rc p a).length<=12)(e:(rc p b).length<=12):v6 n ⟨rc p a,(dI p a:Int)⟩ ⟨rc p b,(dI p b:Int)⟩=some (lF p a b):=by refine ah.eq ?_;unfold v6;exact Fk (EA O O _) (EA O O _) (ah.some rfl)
theorem OG(H:7810000<=n)(C:da p=true):vV n (lu p)=some (fR p (cB p.parts) (cB p.parts).length):=by
 have s:=(gS C).2.2.2.2;refine ah.eq ?_;unfold vV;rw[show(lu p).list=cB p.parts from rfl];generalize o:cB p.parts=l at*;have K: ∀x∈l,fO p x:=λx L=>lf (by rw[o];exact L);refine ah.loop (λz:List fb×Int=> ∃i:Nat,z.2=i/\i<=l.length/\z.1=fR p l i) (λz=>l.length-z.2.toNat) ?_ n _ ⟨0,rfl,O,rfl⟩ Z;rintro v ⟨a,z⟩ ⟨i,q,f,w⟩ Q;dsimp only at q w⊢;subst q;refine bc (λR=>?_) λW=>ah.some ?_
 ·have bE:=bh (O:i<l.length);rw[a' O];refine ah.loop (λz:List fb×Int=> ∃j:Nat,z.2=j/\i<j/\j<=l.length/\z.1=fR p l i++iN p l i j) (λz=>l.length-z.2.toNat) ?_ n _ ⟨i+1,Z,O,O,by dsimp only;rw[w,CE p l i _ (cL _),kn]⟩ Z;rintro r ⟨b,y⟩ ⟨j,D,c,g,d⟩ A;dsimp only at D d⊢;subst D;refine bc (λF=>?_) λG=>?_
  ·have B:=bh (O:j<l.length);have h:=LL H C (i:=i) (k:=j) (by rw[o];exact bE) (by rw[o];exact B);rw[o] at h;have X:=(Ts p l i j).1;refine ah.aY (λz=>z=fR p l i++iN p l i (j+1)) (λt m=>ai h (bc (λe=>ai (ek ?_) (m _ ?_)) λe=>m _ ?_)) λz q=>?_
   ·have u:=xB p l i;have E:=CF p l i j;have I:i*l.length<=120*120:=ml O s;rw[d,dw,pf];omega
   ·rw[d,wD p l c,br O,ix]
   ·rw[d,wD p l c,bn O,kn]
   subst q;rw[a' O];exact A _ ⟨j+1,Z,O,O,rfl⟩ Z
  have e:j=l.length:=O
  try rw[a' O]
  exact Q _ ⟨i+1,Z,O,by dsimp only;rw[d,e,CD]⟩ Z
 have e:i=l.length:=O
 rw[w,e]
theorem O0(F:7810000<=n)(r:da p=true):xV n p=some (fR p (cB p.parts) (cB p.parts).length):=by
 have w:=(gS r).2.2.2.2;refine ah.eq ?_;unfold xV;refine ai (OX F r) ?_;have A:(pP p).length=(cB p.parts).length:=by unfold pP;rw[dL]
 have d: ∀(i:Nat) x,(cB p.parts)[i]? =some x->aH (pP p) (i:Int)=some ⟨rc p x,(dI p x:Int)⟩:=λi x h=>bI (tT h);rw[A];generalize pP p=u at*;generalize L:cB p.parts=l at*;have k: ∀x∈l,fO p x:=λx Q=>lf (by rw[L];exact Q);refine ah.loop (λz:List fb×Int=> ∃i:Nat,z.2=i/\i<=l.length/\z.1=fR p l i) (λz=>l.length-z.2.toNat) ?_ n _ ⟨0,rfl,O,rfl⟩ Z;rintro B ⟨a,z⟩ ⟨i,s,g,C⟩ R;dsimp only at s C⊢;subst s;refine bc (λW=>?_) λX=>ah.some ?_
 ·have bE:=bh (O:i<l.length);rw[a' O];refine ah.loop (λz:List fb×Int=> ∃j:Nat,z.2=j/\i<j/\j<=l.length/\z.1=fR p l i++iN p l i j) (λz=>l.length-z.2.toNat) ?_ n _ ⟨i+1,Z,O,O,by dsimp only;rw[C,CE p l i _ (cL _),kn]⟩ Z;rintro v ⟨b,y⟩ ⟨j,G,m,t,o⟩ D;dsimp only at G o⊢;subst G;refine bc (λH=>?_) λK=>?_
  ·have c:=bh (O:j<l.length);have f:=Nz F (uV r k bE) (uV r k c);refine ah.aY (λz=>z=fR p l i++iN p l i (j+1)) (λE q=>ai (d _ _ bE) (ai (d _ _ c) (ai f (dD (λe=>ai (ek ?_) (q _ ?_)) λe=>q _ ?_)))) λz s=>?_
   ·have I:=xB p l i;have M:=CF p l i j;have N:i*l.length<=120*120:=ml O w;rw[o,dw,pf];omega
   ·rw[o,wD p l m,zr bE c,br e,ix]
   ·rw[o,wD p l m,zr bE c,bn e,kn]
   subst s;rw[a' O];exact D _ ⟨j+1,Z,O,O,rfl⟩ Z
  have e:j=l.length:=O
  try rw[a' O]
  exact R _ ⟨i+1,Z,O,by dsimp only;rw[o,e,CD]⟩ Z
 have e:i=l.length:=O
 rw[C,e]
theorem y4(a:l.length<=120):(fR p l l.length).length<=15000:=by have b:=xB p l l.length;have c:l.length*l.length<=120*120:=ml a a;omega
theorem OW{a b:List Int}(C:a.length<n)(D:a.length<=500000000):
  (bif !decide ((a.length:Int)=(b.length:Int)) then(some false) else(ba (λc (d:Int)=>bif decide (d<(a.length:Int)) then(Option.bind (aH a d) λp=>Option.bind (aH b d) λq=>bif !decide (p=q) then(some false) else(c (wr (d+1)))) else(some true)) n 0))=some (decide (a=b)):=by
 refine ah.eq (dD (λh=>ah.some ?_) λh=>?_)
 ·exact(bs λe=>h (by rw[e])).symm
 refine ah.loop (λx:Int=> ∃i:Nat,x=i/\i<=a.length/\a.take i=b.take i) (λx=>a.length-x.toNat) ?_ n 0 ⟨0,rfl,O,rfl⟩ O;rintro k x ⟨i,rfl,F,l⟩ r;refine bc (λs=>?_) λv=>ah.some ?_
 ·have w:i<a.length:=O
  have y:i<b.length:=O
  have o:=bh w;have aQ:=bh y;refine ai (bI o) (ai (bI aQ) ?_);refine dD (λm=>ah.some ?_) λz=>?_
  ·exact(bs λe=>m (by subst e;rfl)).symm
  rw[a' O];exact r _ ⟨i+1,O,O,by rw[k3 o,k3 aQ,l,z]⟩ O
 have A:a.take i=a:=mi O;have B:b.take i=b:=mi O;rw[A,B] at l;exact(bN l).symm
theorem L3{a b:List Int}(c:a.length<n)(d:a.length<=500000000):x0 n a b=some (decide (a=b)):=by unfold x0;exact OW c d
end Go.Lift
