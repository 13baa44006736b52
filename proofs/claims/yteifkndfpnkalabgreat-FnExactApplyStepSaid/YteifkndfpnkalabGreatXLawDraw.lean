/- Tools. -/
import Derived.Test.YteifkndfpnkalabGreatXLiftLaw
set_option maxRecDepth 110000000
set_option linter.unusedVariables false
namespace Go.Lift
open Go
open Option renaming some -> aa, bind -> bI
open Bool renaming true -> ab, false -> al, and_eq_true -> cB
open Decidable renaming decide -> aj
open List renaming length_append -> iJ, all_eq_true -> kp, replicate -> dn, map_cons -> hg
abbrev N:Nat:=110000000
section
def dot:List Int->List Int->Int
 |c::cs,x::xs=>c*x+dot cs xs
 |_,_=>0
def c3(m:Int)(x:Int):Prop:= -m<=x/\x<=m
variable {a:aE}{b c x d aL v M:Int}{i k n:Nat}{p l:List Int}{R:Type}{A B:Option R}{o:List Loop}{s:List UInt8}{Q:R->Prop}
theorem CI{a:Int}(i:0<=a)(l:0<=b)(d:c3 a c)(e:c3 b x):c3 (a*b) (c*x):=by
 obtain⟨m,n⟩:=d;obtain⟨o,p⟩:=e;constructor
 ·have h:=o3 (O:0<=a+c) (O:0<=b+x);have k:=o3 (O:0<=a-c) (O:0<=b-x)
  grind
 have h:=o3 (O:0<=a+c) (O:0<=b-x);have k:=o3 (O:0<=a-c) (O:0<=b+x)
 grind
theorem Hg(a:List Int):dot a []=0:=by cases a<;>rfl
theorem OB: ∀{cs a:List Int} {c x:Int},cs[a.length]? =aa c->dot cs (a++[x])=dot cs a+c*x
 | [],a,c,x,h=>by simp at h
 |d::cs,[],c,x,h=>by simp at h;subst h;simp[dot,Hg]
 |d::cs,y::a,c,x,h=>by
  have h:cs[a.length]? =aa c:=by simpa using h
  simp only[List.cons_append,dot];rw[OB h];omega
theorem OA{d e:List Int}(b:d[i]? =aa c)(a:e[i]? =aa x):dot d (e.take (i+1))=dot d (e.take i)+c*x:=by have aL:=(d6.1 a).1;rw[eN,a];exact OB (by simpa[Nat.min_eq_left (Nat.le_of_lt aL)] using b)
theorem Iv{M:Int}(a:0<=M): ∀{cs xs:List Int},(∀c∈cs,c3 9 c)->(∀x∈xs,c3 M x)->c3 (9*M*xs.length) (dot cs xs)
 | [],xs,_,_=>by
  have:0<=9*M*(xs.length:Int):=o3 O O;simp only[dot,c3];omega
 |d::cs,[],_,_=>by simp[dot,c3]
 |d::cs,y::xs,b,i=>by
  have k:=Iv a (cs:=cs) (xs:=xs) (λc h=>b c (by simp[h])) λx h=>i x (by simp[h]);have l:=CI O a (b d bl) (i y bl);have e:9*M*((y::xs).length:Int)=9*M*(xs.length:Int)+9*M:=by simp[Int.mul_add]
  rw[e];simp only[dot,c3] at*;omega
def dP(a b:Int):List Int:=(List.range (b-a).toNat).map (fun(i:Nat)=>a+(i:Int))
theorem aej{a:Int}:v∈dP a aL↔a<=v/\v<aL:=by
 simp only[dP,List.mem_map,List.mem_range];constructor
 ·rintro⟨i,aL,rfl⟩;omega
 intro h;exact⟨(v-a).toNat,O,O⟩
theorem lU{a:Int}(h:b<=a):dP a b=[]:=by unfold dP;rw[show(b-a).toNat=0 by omega];rfl
theorem ud{a:Int}(h:b<=a):dP b (a+1)=dP b a++[a]:=by
 unfold dP;rw[show(a+1-b).toNat=(a-b).toNat+1 by omega,qf,ib]
 grind
theorem AR{a:Int}(b:a<=v)(c:v<aL):dP a aL=dP a v++v::dP (v+1) aL:=by
 obtain⟨k,d⟩: ∃k:Nat,aL=v+1+k:=⟨(aL-v-1).toNat,O⟩
 subst d;clear c;induction k with
 |zero=>
  rw[show v+1+((0:Nat):Int)=v+1 by omega,ud b,lU (hA _)]
 |succ k e=>
  rw[show v+1+((k+1:Nat):Int)=v+1+(k:Int)+1 by omega,ud O,e,ud O];simp
theorem Cm{k:Type}{f:k->Option Bool}{p:k->Bool}{l:List k}(q: ∀x∈l,f x=aa (p x))(D:l.length<n)(s:l.length<=500000000):
  ∃r:Int,bA (λa (b:Int)=>bif aj (b<(l.length:Int)) then(bI (aB l b) λd=>bI (f d) λe=>bif e then(aa b) else(a (wr (b+1)))) else(aa (-1))) n 0=aa r/\aj (0<=r)=l.any p:=by
 suffices h:ad (bA (λa (b:Int)=>bif aj (b<(l.length:Int)) then(bI (aB l b) λd=>bI (f d) λe=>bif e then(aa b) else(a (wr (b+1)))) else(aa (-1))) n 0) (λr=>decide (0<=r)=l.any p) by exact h
 refine ad.loop (λx:Int=>0<=x/\x<=l.length/\(l.take x.toNat).any p=al) (λx:Int=>l.length-x.toNat) ?_ n 0 ⟨O,O,bl⟩ cd;rintro i x ⟨o,F,G⟩ w;refine aV (λm=>?_) λz=>?_
 ·obtain⟨y,A,c⟩:=pk o m;have hm:=bX c;refine ag A (ag (q y hm) (ad.cond (λB=>ad.some ?_) λC=>?_))
  ·rw[show l.any p=ab from iZ.2 ⟨y,hm,B⟩];simp[o]
  rw[bf O];refine w _ ⟨O,O,?_⟩ O;rw[show(x+1).toNat=x.toNat+1 by omega,eN,c]
  grind
 refine ad.some ?_;have H:x.toNat=l.length:=O
 grind
theorem t6{f:Int->Option Bool}{p:Int->Bool}(b: ∀x∈l,f x=aa (p x))(c:l.length<n)(a:l.length<=500000000):oA n l f=aa (l.any p):=by
 obtain⟨r,d,e⟩:=Cm b c a;unfold oA y6
 grind
theorem y8{f:aE->Option Bool}{p:aE->Bool}{l:List aE}(b: ∀x∈l,f x=aa (p x))(c:l.length<n)(a:l.length<=500000000):pv n l f=aa (l.any p):=by
 obtain⟨r,d,e⟩:=Cm b c a;unfold pv Dy
 grind
theorem WA{f:Stmt->Option Bool}{p:Stmt->Bool}{l:List Stmt}(b: ∀x∈l,f x=aa (p x))(c:l.length<n)(a:l.length<=500000000):Dv n l f=aa (l.any p):=by
 obtain⟨r,d,e⟩:=Cm b c a;unfold Dv Kf
 grind
theorem U9{f:cx->Option Bool}{p:cx->Bool}{l:List cx}(b: ∀x∈l,f x=aa (p x))(c:l.length<n)(a:l.length<=500000000):Dr n l f=aa (l.any p):=by
 obtain⟨r,d,e⟩:=Cm b c a;unfold Dr Ka
 grind
theorem qb{k:Type}{l:List k}{p:Nat->k->Bool}{Q:Bool->Prop}{m:(Int->Option Bool)->Int->Option Bool}(z:l.length<n)(r:l.length<=500000000)
  (b: ∀a (i:Nat) x,l[i]? =aa x->(p i x=ab->ad (a ((i:Int)+1)) Q)->(p i x=al->Q al)->ad (m a (i:Int)) Q)
  (e: ∀a,(∀(i:Nat) x,l[i]? =aa x->p i x=ab)->ad (m a (l.length:Int)) Q) (c:(∃(i:Nat) (x:k),l[i]? =aa x/\p i x=al)->Q al):ad (bA m n 0) Q:=by
 refine ad.loop (λx:Int=> ∃i:Nat,x=i/\i<=l.length/\ ∀(j:Nat) y,j<i->l[j]? =aa y->p j y=ab) (λx:Int=>l.length-x.toNat) ?_ n 0 ⟨0,rfl,O,λj y h=>O⟩ cd;rintro a x ⟨i,rfl,A,B⟩ s;by_cases d:i<l.length
 ·have o:=bD d;refine b a i _ o (λq=>s _ ⟨i+1,O,O,λj y C D=>?_⟩ O) (λq=>c ⟨i,_,o,q⟩)
  grind
 have w:i=l.length:=O
 grind
def de(a:aE):Bool:=aj (a.aK.length=4)&&(aj (-99<=a.const/\a.const<=99)&&a.aK.all λc=>decide (-9<=c/\c<=9))
theorem fS(h:de a=ab):a.aK.length=4/\c3 99 a.const/\ ∀c∈a.aK,c3 9 c:=by simp only[de,cB,decide_eq_true_eq,kp] at h;exact⟨h.1,h.2.1,h.2.2⟩
theorem d5(n:Nat)(x a b:Int):fz n x a b=aa (aj (a<=x/\x<=b)):=by unfold fz;by_cases c:a<=x<;>by_cases d:x<=b<;>simp[aQ,c,d]
theorem TH(h:5500000<=n)(a:aE)(i:a.aK.length<=1100000):wg n a=aa (de a):=by
 have d: ∀x∈a.aK,y7 n x=aa (!decide (-9<=x/\x<=9)):=λx _=>by unfold y7;rw[d5];rfl
 have bU:=t6 (n:=n) d O O;unfold wg Ge;rw[d5];simp only[aQ,bI];rw[bU];unfold de;have e:(a.aK.any λx=> !decide (-9<=x/\x<=9))= !(a.aK.all λc=>decide (-9<=c/\c<=9)):=by
  grind
 rw[e];by_cases b:a.aK.length=4
 ·rw[bS (show(a.aK.length:Int)=4 by omega),bS b]
  grind
 rw[bR (show¬(a.aK.length:Int)=4 by omega),bR b];rfl
theorem zD(n:Nat)(x m:Int)(c:0<=m/\m<=1000000000):rr n x m=aa (aj (-m<=x/\x<=m)):=by
 unfold rr;rw[bf O];by_cases a: -m<=x<;>by_cases b:x<=m
 ·simp[aQ,a,b]
 ·simp[aQ,a,b]
 ·simp[aQ,a,b]
 simp[aQ,a,b]
theorem Ke(y:5500000<=n)(a:aE)(A:a.aK.length<=1100000):vZ n a=aa (de a):=by
 refine ad.eq ?_;unfold vZ;refine qb (l:=a.aK) (p:=λ_ c=>decide (-9<=c/\c<=9)) O O (λb i x k m o=>?_) (λb d=>?_) (λ⟨i,x,k,q⟩=>?_)
 ·rw[bS (show(i:Int)<(a.aK.length:Int) by have:=(d6.1 k).1;omega)];refine ag (bq k) (ag (zD n x 9 O) ?_);have aL:=(d6.1 k).1;cases q:aj (-9<=x/\x<=9) with
  |true=>show ad (b _) _;rw[bf O];exact m q
  |false=>exact ad.some (o q)
 ·rw[bR (show¬(a.aK.length:Int)<(a.aK.length:Int) by omega)];have e:a.aK.all (λc=>decide (-9<=c/\c<=9))=ab:=gx.2 λc s=>by obtain⟨i,aL⟩:=kT s;exact d i c aL
  refine ad.cond (λh=>(by cases h)) λ_=>?_;unfold de;rw[e];refine ad.aQ (λz:Bool=>z=(aj (a.aK.length=4)&&(aj (-99<=a.const/\a.const<=99)&&ab))) (λj r=>?_) λz w=>ad.some w;refine aV (λh=>ag (zD n a.const 99 O) (r _ ?_)) λh=>r _ ?_
  ·rw[bS (O:a.aK.length=4)];simp
  rw[bR (show¬a.aK.length=4 by omega)];rfl
 unfold de
 grind
def gk(a:aE)(p:List Int):Int:=a.const+dot a.aK p
def DR(M:Int)(p:List Int):Prop:= ∀x∈p,c3 M x
theorem A8(b:de a=ab)(k:p.length<=4)(c:0<=M/\M<=1000000000)(d:DR M p)(i:Nat)(l:i<=p.length):c3 1000000000000 (a.const+dot a.aK (p.take i)):=by
 obtain⟨m,n,e⟩:=fS b;have o:=Iv (M:=M) c.1 (cs:=a.aK) (xs:=p.take i) e λx h=>d x (gm h);have q:(p.take i).length<=4:=cd
 have r:9*M*((p.take i).length:Int)<=9*M*4:=Int.mul_le_mul_of_nonneg_left O O;simp only[c3] at*;omega
theorem aaG(D:5500000<=n)(e:de a=ab)(o:p.length<=4)(h:0<=M/\M<=1000000000)(l:DR M p):oC n a p=aa (gk a p):=by
 obtain⟨F,G,w⟩:=fS e;refine ad.eq ?_;unfold oC;refine ad.loop (λx:Int×Int=> ∃i:Nat,x.2=i/\i<=p.length/\x.1=a.const+dot a.aK (p.take i)) (λx=>p.length-x.2.toNat) ?_ n _ ⟨0,rfl,O,by simp[Hg]⟩ cd;rintro m ⟨x,k⟩ ⟨i,q,y,r⟩ z;dsimp only at q r⊢;subst q;refine aV (λd=>?_) λA=>ad.some ?_
 ·have d:i<p.length:=O
  have b:=bD d;have c:=bD (O:i<a.aK.length);have cJ:=OA c b;have B:=A8 e o h l i y;have s:=A8 e o h l (i+1) O;rw[cJ] at s;have C:=CI O h.1 (w _ (bX c)) (l _ (bX b));refine ag (bq b) (ag (bq c) ?_);simp only[c3] at B s C;rw[bf (n:=a.aK[i]*p[i]) O,bf O,bf O];refine z _ ⟨i+1,Z,O,?_⟩ Z
  grind
 have:i=p.length:=O
 rw[r,this,eb];rfl
theorem aat(K:5500000<=n)(d:de a=ab)(q:p.length<=4)(e:0<=M/\M<=1000000000)(l:DR M p):oW n a p=aa (gk a p):=by
 obtain⟨L,Q,A⟩:=fS d;refine ad.eq ?_;unfold oW;refine ad.loop (λx:Int×Int=> ∃i:Nat,x.2=i/\i<=p.length/\x.1=a.const+dot a.aK (p.take i)) (λx=>p.length-x.2.toNat) ?_ n _ ⟨0,rfl,O,by simp[Hg]⟩ cd;rintro m ⟨x,k⟩ ⟨i,r,B,s⟩ C;dsimp only at r s⊢;subst r;refine ad.aQ (λz=>z=aj (i<p.length)) (λj w=>aV (λh=>w _ ?_) λh=>w _ ?_) λz D=>?_
 ·rw[bS (O:i<p.length),bS (show(i:Int)<(a.aK.length:Int) by omega)]
 ·rw[bR (show¬i<p.length by omega)]
 subst D;refine aV (λo=>?_) λF=>ad.some ?_
 ·have b:=bD o;have c:=bD (O:i<a.aK.length);have cJ:=OA c b;have G:=A8 d q e l i B;have y:=A8 d q e l (i+1) O;rw[cJ] at y;have H:=CI O e.1 (A _ (bX c)) (l _ (bX b));refine ag (bq c) (ag (bq b) ?_);simp only[c3] at G y H;rw[bf (n:=a.aK[i]*p[i]) O,bf O,bf O];refine C _ ⟨i+1,Z,O,?_⟩ Z
  grind
 have:i=p.length:=O
 rw[s,this,eb];rfl
theorem bW(h:ad A Q):ad (bif ab then A else B) Q:=h
theorem b1(h:ad B Q):ad (bif al then A else B) Q:=h
def fl:List Int->Nat
 | []=>0
 |c::cs=>if fl cs=0 then(if c=0 then 0 else 1) else fl cs+1
theorem L0: ∀(l:List Int) (c:Int),fl (l++[c])=if c=0 then fl l else l.length+1
 | [],c=>by simp[fl]
 |d::l,c=>by
  have b:=L0 l c;simp only[List.cons_append,fl,b];by_cases a:c=0
  ·simp[a]
  simp[a]
theorem LZ(h:l[i]? =aa c):fl (l.take (i+1))=if c=0 then fl (l.take i) else i+1:=by have aL:=(d6.1 h).1;rw[eN,h];show fl (l.take i++[c])=_;rw[L0,c8,zT (Nat.le_of_lt aL)]
theorem zG: ∀{l:List Int} {i:Nat} {c:Int},l[i]? =aa c->fl l<=i->c=0
 | [],i,c,h,_=>by simp at h
 |d::l,0,c,h,a=>by
  simp at h;subst h;simp only[fl] at a;by_cases b:fl l=0
  ·by_cases e:d=0
   ·exact e
   simp[b,e] at a
  simp[b] at a
 |d::l,i+1,c,h,a=>by
  have h:l[i]? =aa c:=by simpa using h
  refine zG h ?_;simp only[fl] at a;by_cases b:fl l=0
  ·omega
  rw[be b] at a;omega
def iu(a:aE):Prop:=a.aK.length<=1100000
def jY(l:List aE):Prop:=l.length<=1100000/\ ∀a∈l,iu a
theorem zQ(r:5500000<=n)(e:iu a):oR n a=aa (fl a.aK:Int):=by
 have e:a.aK.length<=1100000:=e;refine ad.eq ?_;unfold oR;refine ad.loop (λx:Int×Int=> ∃i:Nat,x.2=i/\i<=a.aK.length/\x.1=(fl (a.aK.take i):Int)) (λx=>a.aK.length-x.2.toNat) ?_ n _ ⟨0,rfl,O,by simp[fl]⟩ cd;rintro c ⟨x,k⟩ ⟨i,h,s,l⟩ o;dsimp only at h l⊢;subst h;refine aV (λb=>?_) λp=>ad.some ?_
 ·have b:i<a.aK.length:=O
  have bU:=bD b;have cJ:=LZ bU;refine ad.aQ (λz:Int=>z=(fl (a.aK.take (i+1)):Int)) (λj m=>ag (bq bU) (dV (λd=>m _ ?_) λd=>m _ ?_)) λz q=>?_
  ·rw[cJ,be d,bf O];omega
  ·rw[cJ,bg d,l]
  rw[bf O];exact o _ ⟨i+1,Z,O,q⟩ Z
 have:i=a.aK.length:=O
 grind
theorem Aw(q:5500000<=n)(o:iu a):f5 n a=aa (fl a.aK:Int):=by
 have o:a.aK.length<=1100000:=o;refine ad.eq ?_;unfold f5;refine ad.loop (λx:Int=> ∃i:Nat,x=i/\i<=a.aK.length/\fl a.aK=fl (a.aK.take i)) (λx=>x.toNat) ?_ n _ ⟨a.aK.length,rfl,O,by rw[eb]⟩ cd;rintro b x ⟨i,rfl,r,c⟩ p;cases i with
 |zero=>
  refine ad.aQ (λz=>z=al) (λj d=>aV (λh=>br h (by decide)) λh=>d _ rfl) λz k=>?_;subst k;exact ad.some (by rw[c];rfl)
 |succ i=>
  have l:i<a.aK.length:=O
  have bU:=bD l;have cJ:=LZ bU;have e:wr (((i+1:Nat):Int)-1)=(i:Int):=by rw[bf O];omega
  rw[e];refine ad.aQ (λz=>z=aj (a.aK[i]=0)) (λj d=>aV (λh=>ag (bq bU) (d _ rfl)) λh=>br (show(0:Int)<((i+1:Nat):Int) by omega) h) λz k=>?_;subst k;refine aV (λm=>?_) λm=>ad.some ?_
  ·exact p _ ⟨i,rfl,O,by rw[c,cJ,bg m]⟩ O
  rw[c,cJ,be m]
def fA(a:aE)(d:Int):Bool:=de a&&aj ((fl a.aK:Int)<=d)
def fB(l:List aE)(d:Int):Bool:=l.all (λa=>fA a d)&&aj (1<=l.length/\l.length<=2)
theorem J5(a b:Int):aj (a<b)= !decide (b<=a):=by grind
theorem LQ(w:5500000<=n){l:List aE}(B:jY l)(d:Int):xI n l d=aa (fB l d):=by
 obtain⟨F,C⟩:=B;refine ad.eq ?_;unfold xI;refine qb (l:=l) (p:=λ_ a=>fA a d) O O (λb i x o q r=>?_) (λb k=>?_) (λ⟨i,x,o,G⟩=>?_)
 ·have aL:=(d6.1 o).1;have hm:=C x (bX o);rw[bS (show(i:Int)<(l.length:Int) by omega)];refine bW (ad.aQ (λz=>z= !fA x d) (λj m=>ag (bq o) (ag (Ke w x hm) ?_)) λz s=>?_)
  ·cases y:de x with
   |false=>exact m _ (by unfold fA;rw[y];rfl)
   |true=>exact ag (zQ w hm) (m _ (by unfold fA;rw[y,J5];simp))
  subst s;cases A:fA x d with
  |true=>show ad (b _) _;rw[bf O];exact q A
  |false=>exact ad.some (r A)
 ·rw[bR (show¬(l.length:Int)<(l.length:Int) by omega)];have e:l.all (λa=>fA a d)=ab:=gx.2 λc D=>by obtain⟨i,aL⟩:=kT D;exact k i c aL
  unfold fB;rw[e];refine b1 (ad.aQ (λz=>z=aj (1<=l.length/\l.length<=2)) (λj m=>aV (λh=>m _ ?_) λh=>m _ ?_) λz s=>ad.some (by rw[s];rfl))
  ·by_cases H:l.length<=2
   ·rw[bS (show(l.length:Int)<=2 by omega),bS O]
   rw[bR (show¬(l.length:Int)<=2 by omega),bR O]
  rw[bR O]
 unfold fB
 grind
theorem Mt(b:5500000<=n)(c:iu a)(d:Int):wj n a d=aa (!fA a d):=by
 unfold wj;rw[TH b a c];simp only[aQ,bI];cases e:de a with
 |false=>simp[fA,e]
 |true=>
  rw[Aw b c];simp only[fA,e,Bool.not_true,cond_false,Bool.true_and];rw[J5]
theorem E1(n k:Nat):fz n (k:Int) 1 2=aa (aj (1<=k/\k<=2)):=by
 rw[d5];congr 1
 grind
theorem Lc(b:5500000<=n){l:List aE}(c:jY l)(d:Int):zY n l d=aa (fB l d):=by
 obtain⟨k,e⟩:=c;unfold zY;rw[E1];have bU:=y8 (n:=n) (f:=λh=>wj n h d) (p:=λa=> !fA a d) (l:=l) (λx i=>Mt b (e x i) d) O O;simp only[aQ,bI];rw[bU];unfold fB
 grind
def uG{k:Type}(p:Nat->k->Bool)(l:List k):Bool:=l.zipIdx.all λq=>p q.2 q.1
theorem EH{k:Type}{p:Nat->k->Bool}{l:List k}(h: ∀(i:Nat) x,l[i]? =aa x->p i x=ab):uG p l=ab:=
 gx.2 λq a=>h q.2 q.1 (Ej.1 a)
theorem Ec{k:Type}{p:Nat->k->Bool}{l:List k}{x:k}(h:l[i]? =aa x)(a:p i x=al):uG p l=al:=
 l4.2 ⟨(x,i),Ej.2 h,by rw[a];simp⟩
theorem FE{k:Type}{p:Nat->k->Bool}{l:List k}(h:uG p l=ab){x:k}(a:l[i]? =aa x):p i x=ab:=
 gx.1 h (x,i) (Ej.2 a)
def lk(a:List Loop):Bool:=uG (λi l=>fB l.bo (i:Int)&&fB l.aL (i:Int)) a&&aj (a.length<=4)
def qC(a:List Loop):Prop:=a.length<=1100000/\ ∀l∈a,jY l.bo/\jY l.aL
theorem Vv(k:5500000<=n)(h:qC o):Es n o=aa (lk o):=by
 obtain⟨C,s⟩:=h;refine ad.eq ?_;unfold Es;refine qb (l:=o) (p:=λi l=>fB l.bo (i:Int)&&fB l.aL (i:Int)) O O (λa i x b d e=>?_) (λa c=>?_) (λ⟨i,x,b,w⟩=>?_)
 ·have aL:=(d6.1 b).1;obtain⟨y,A⟩:=s x (bX b);rw[bS (show(i:Int)<(o.length:Int) by omega)];refine ag (bq b) (ad.aQ (λz=>z= !(fB x.bo (i:Int)&&fB x.aL (i:Int))) (λj m=>ag (Lc k y _) ?_) λz B=>?_)
  ·cases q:fB x.bo (i:Int) with
   |false=>exact m _ (by rw[q];rfl)
   |true=>exact ag (Lc k A _) (m _ (by rw[q];rfl))
  subst B;cases r:(fB x.bo (i:Int)&&fB x.aL (i:Int)) with
  |true=>show ad (a _) _;rw[bf O];exact d r
  |false=>exact ad.some (e r)
 ·rw[bR (show¬(o.length:Int)<(o.length:Int) by omega)];refine ad.some ?_;unfold lk;rw[EH c,gg]
  grind
 unfold lk;rw[Ec b w];rfl
theorem Vr(r:5500000<=n)(h:qC o):EB n o=aa (lk o):=by
 obtain⟨F,A⟩:=h;unfold EB;by_cases s:o.length<=4
 ·rw[bS (show(o.length:Int)<=4 by omega)];refine ad.eq ?_;refine qb (l:=o) (p:=λi l=>fB l.bo (i:Int)&&fB l.aL (i:Int)) O O (λa i x c m q=>?_) (λa d=>?_) (λ⟨i,x,c,B⟩=>?_)
  ·have aL:=(d6.1 c).1;obtain⟨C,D⟩:=A x (bX c);rw[bS (show(i:Int)<(o.length:Int) by omega)];refine ad.aQ (λz=>z=ab) (λj b=>bW (b _ rfl)) λz e=>?_;subst e;refine bW (ad.aQ (λz=>z= !(fB x.bo (i:Int)&&fB x.aL (i:Int))) (λj b=>ag (bq c) (ag (LQ r C _) ?_)) λz e=>?_)
   ·cases w:fB x.bo (i:Int) with
    |false=>exact b _ (by rw[w];rfl)
    |true=>exact ag (LQ r D _) (b _ (by rw[w];rfl))
   subst e;cases y:(fB x.bo (i:Int)&&fB x.aL (i:Int)) with
   |true=>show ad (a _) _;rw[bf O];exact m y
   |false=>exact ad.some (q y)
  ·rw[bR (show¬(o.length:Int)<(o.length:Int) by omega)];refine ad.aQ (λz=>z=al) (λj b=>b1 (b _ rfl)) λz e=>?_;subst e;refine ad.some ?_;unfold lk;rw[EH d,bS s];rfl
  unfold lk;rw[Ec c B];rfl
 obtain⟨k,rfl⟩: ∃k,n=k+1:=⟨n-1,O⟩
 rw[bR (show¬(o.length:Int)<=4 by omega)];unfold lk;rw[bR s,kn];simp only[bA,aQ]
 grind
def hM:List Int->Int
 | []=>0
 |x::a=>a.foldl max x
def oV:List Int->Int
 | []=>0
 |x::a=>a.foldl min x
theorem aeq(h:l≠[])(x:Int):hM (l++[x])=max (hM l) x:=by
 cases l with
 |nil=>exact br rfl h
 |cons a l=>simp[hM,List.foldl_append]
theorem aes(h:l≠[])(x:Int):oV (l++[x])=min (oV l) x:=by
 cases l with
 |nil=>exact br rfl h
 |cons a l=>simp[oV,List.foldl_append]
theorem Qz: ∀(l:List Int) (a:Int),a<=l.foldl max a
 | [],a=>hA _
 |x::l,a=>Int.le_trans (Int.le_max_left a x) (Qz l (max a x))
theorem QC: ∀(l:List Int) (a:Int),l.foldl min a<=a
 | [],a=>hA _
 |x::l,a=>Int.le_trans (QC l (min a x)) (Int.min_le_left a x)
def lH(l:List aE)(p:List Int):List Int:=l.map λa=>gk a p
def dS(l:Loop)(p:List Int):Int:=hM (lH l.bo p)
def eK(l:Loop)(p:List Int):Int:=oV (lH l.aL p)
def il(k:Nat)(p:List Int):Prop:=p.length=k/\k<=4/\DR (100*40^k) p
theorem sE(h:k<=4):(0:Int)<=100*40^k/\(100:Int)*40^k<=1000000000:=by
 match k,h with
 |0,_=>decide
 |1,_=>decide
 |2,_=>decide
 |3,_=>decide
 |4,_=>decide
theorem qt{l:List aE}(h:fB l d=ab):1<=l.length/\l.length<=2/\ ∀a∈l,de a=ab:=by
 simp only[fB,cB,decide_eq_true_eq,kp] at h;refine⟨h.2.1,h.2.2,λa b=>?_⟩
 have:=h.1 a b;simp only[fA,cB] at this
 grind
theorem Qk(b:de a=ab)(c:il k p)(d:k<=3): -(40*(100*40^k))<=gk a p/\gk a p<=40*(100*40^k):=by
 obtain⟨m,n,e⟩:=fS b;obtain⟨o,q,h⟩:=c;obtain⟨i,r⟩:=sE (k:=k) O;have s:(100:Int)<=100*40^k:=by
  match k,d with
  |0,_=>decide
  |1,_=>decide
  |2,_=>decide
  |3,_=>decide
 generalize (100*40^k:Int)=M at*;have w:=Iv (M:=M) i (cs:=a.aK) (xs:=p) e λx l=>h x l;have y:9*M*(p.length:Int)<=9*M*3:=Int.mul_le_mul_of_nonneg_left O O;simp only[c3] at*;unfold gk;omega
theorem yr(c:5500000<=n)(d:de a=ab)(b:il k p):oW n a p=aa (gk a p):=
 aat c d (by have:=b.1;have:=b.2.1;omega) (sE b.2.1) b.2.2
theorem yp(c:5500000<=n)(d:de a=ab)(b:il k p):oC n a p=aa (gk a p):=
 aaG c d (by have:=b.1;have:=b.2.1;omega) (sE b.2.1) b.2.2
theorem o1{l:List aE}(h:l[i]? =aa a):(lH l p)[i]? =aa (gk a p):=by unfold lH;rw[List.getElem?_map,h];rfl
theorem Cg(l:List aE)(p:List Int):(lH l p).length=l.length:=dH ..
theorem OV{k:Type}{l:List k}(h:1<=i)(a:1<=l.length):l.take i≠[]:=by
 intro e
 have:(l.take i).length=0:=by rw[e];rfl
 grind
theorem OL(h:l[i]? =aa x)(a:1<=i):hM (l.take (i+1))=max (hM (l.take i)) x:=by have:=(d6.1 h).1;rw[eN,h];exact aeq (OV a O) x
theorem ON(h:l[i]? =aa x)(a:1<=i):oV (l.take (i+1))=min (oV (l.take i)) x:=by have:=(d6.1 h).1;rw[eN,h];exact aes (OV a O) x
theorem HQ(h:l[0]? =aa x):hM (l.take 1)=x:=by
 cases l with
 |nil=>simp at h
 |cons a l=>simp at h;subst h;rfl
theorem HR(h:l[0]? =aa x):oV (l.take 1)=x:=by
 cases l with
 |nil=>simp at h
 |cons a l=>simp at h;subst h;rfl
theorem Mh(q:5500000<=n){l:Loop}{a:Int}(Q:fB l.bo d=ab)(R:fB l.aL a=ab)(r:il k p):Ae n l p=aa (dS l p,eK l p):=by
 obtain⟨aP,a2,a3⟩:=qt Q;obtain⟨f,t,L⟩:=qt R;have B:=bD (O:0<l.bo.length);have C:=bD (O:0<l.aL.length);refine ad.eq ?_;unfold Ae;refine ag (bq (i:=0) B) (ag (yr q (a3 _ (bX B)) r) (ag (bq (i:=0) C) (ag (yr q (L _ (bX C)) r) ?_)));refine ad.loop (λx:Int×Int=> ∃i:Nat,x.2=i/\1<=i/\i<=l.bo.length/\x.1=hM ((lH l.bo p).take i)) (λx=>l.bo.length-x.2.toNat) ?_ n _ ⟨1,rfl,O,O,(HQ (o1 B)).symm⟩ Z;rintro D ⟨x,z⟩ ⟨i,b,c,W,s⟩ X;dsimp only at b s⊢;subst b;refine aV (λF=>?_) λG=>?_
 ·have g:=bD (O:i<l.bo.length);have e:=OL (o1 (p:=p) g) c;refine ad.aQ (λz=>z=hM ((lH l.bo p).take (i+1))) (λj o=>ag (bq g) (ag (yr q (a3 _ (bX g)) r) (aV (λh=>o _ ?_) λh=>o _ ?_))) λz b=>?_
  ·rw[e,<-s];omega
  ·rw[e,<-s];omega
  rw[bf O];exact X _ ⟨i+1,Z,O,O,b⟩ Z
 have m:i=l.bo.length:=O
 have H:x=dS l p:=by rw[s,m,<-Cg l.bo p,eb];rfl
 refine ad.loop (λx:Int×Int=> ∃i:Nat,x.2=i/\1<=i/\i<=l.aL.length/\x.1=oV ((lH l.aL p).take i)) (λx=>l.aL.length-x.2.toNat) ?_ n _ ⟨1,rfl,O,O,(HR (o1 C)).symm⟩ Z;rintro w ⟨y,z⟩ ⟨i,b,c,W,A⟩ K;dsimp only at b A⊢;subst b;refine aV (λF=>?_) λG=>ad.some ?_
 ·have g:=bD (O:i<l.aL.length);have e:=ON (o1 (p:=p) g) c;refine ad.aQ (λz=>z=oV ((lH l.aL p).take (i+1))) (λj o=>ag (bq g) (ag (yr q (L _ (bX g)) r) (aV (λh=>o _ ?_) λh=>o _ ?_))) λz b=>?_
  ·rw[e,<-A];omega
  ·rw[e,<-A];omega
  rw[bf O];exact K _ ⟨i+1,Z,O,O,b⟩ Z
 have m:i=l.aL.length:=O
 rw[H,A,m,<-Cg l.aL p,eb];rfl
theorem abj(e:5500000<=n){l:Loop}{a:Int}(G:fB l.bo d=ab)(H:fB l.aL a=ab)(h:il k p):Eu n l p=aa (dS l p,eK l p):=by
 obtain⟨aP,a2,a3⟩:=qt G;obtain⟨Q,R,F⟩:=qt H;have r:=bD (O:0<l.bo.length);have s:=bD (O:0<l.aL.length);refine ad.eq ?_;unfold Eu;refine ag (bq (i:=0) r) (ag (yp e (a3 _ (bX r)) h) (ag (bq (i:=0) s) (ag (yp e (F _ (bX s)) h) ?_)));refine ad.loop (λx:Int×Int=> ∃i:Nat,x.2=i/\i<=l.bo.length/\x.1=hM ((lH l.bo p).take (max i 1))) (λx=>l.bo.length-x.2.toNat) ?_ n _ ⟨0,rfl,O,(HQ (o1 r)).symm⟩ Z;rintro w ⟨x,z⟩ ⟨i,c,K,m⟩ L;dsimp only at c m⊢;subst c;refine aV (λA=>?_) λB=>?_
 ·have g:=bD (O:i<l.bo.length);refine ag (bq g) (ag (yp e (a3 _ (bX g)) h) ?_);rw[bf O];refine L _ ⟨i+1,Z,O,?_⟩ Z;dsimp only;rw[show max (i+1) 1=i+1 by omega];cases i with
  |zero=>rw[m,show max 0 1=1 by rfl,dA,HQ (o1 g)];omega
  |succ i=>rw[OL (o1 (p:=p) g) O,m,show max (i+1) 1=i+1 by omega]
 have b:i=l.bo.length:=O
 have C:x=dS l p:=by rw[m,b,Nat.max_eq_left O,<-Cg l.bo p,eb];rfl
 refine ad.loop (λx:Int×Int=> ∃i:Nat,x.2=i/\i<=l.aL.length/\x.1=oV ((lH l.aL p).take (max i 1))) (λx=>l.aL.length-x.2.toNat) ?_ n _ ⟨0,rfl,O,(HR (o1 s)).symm⟩ Z;rintro o ⟨y,z⟩ ⟨i,c,K,q⟩ D;dsimp only at c q⊢;subst c;refine aV (λA=>?_) λB=>ad.some ?_
 ·have g:=bD (O:i<l.aL.length);refine ag (bq g) (ag (yp e (F _ (bX g)) h) ?_);rw[bf O];refine D _ ⟨i+1,Z,O,?_⟩ Z;dsimp only;rw[show max (i+1) 1=i+1 by omega];cases i with
  |zero=>rw[q,show max 0 1=1 by rfl,dA,HR (o1 g)];omega
  |succ i=>rw[ON (o1 (p:=p) g) O,q,show max (i+1) 1=i+1 by omega]
 have b:i=l.aL.length:=O
 rw[C,q,b,Nat.max_eq_left O,<-Cg l.aL p,eb];rfl
theorem Cb{l:Loop}(n:fB l.bo d=ab)(o:fB l.aL b=ab)(e:il k p)(i:k<=3)(A:dS l p<=v/\v<eK l p):il (k+1) (p++[v]):=by
 obtain⟨aP,a2,a3⟩:=qt n;obtain⟨m,B,r⟩:=qt o;have C: -(40*(100*40^k))<=dS l p:=by
  cases c:l.bo with
  |nil=>rw[c] at aP;simp at aP
  |cons a as=>
   have:=(Qk (a3 a (by rw[c];simp)) e i).1;unfold dS lH;rw[c];exact Int.le_trans this (Qz _ _)
 have D:eK l p<=40*(100*40^k):=by
  cases c:l.aL with
  |nil=>rw[c] at m;simp at m
  |cons a as=>
   have:=(Qk (r a (by rw[c];simp)) e i).2;unfold eK lH;rw[c];exact Int.le_trans (QC _ _) this
 obtain⟨s,F,w⟩:=e;have y:(100*40^(k+1):Int)=40*(100*40^k):=by rw[Int.pow_succ];omega
 have q:=(sE (k:=k) O).1;refine⟨by simp[s],O,λx z=>?_⟩;rw[y];rcases eX.1 z with h|h
 ·have:=w x h;simp only[c3] at this⊢;omega
 simp at h;subst h;simp only[c3];omega
def fF:List Loop->List Int->List (List Int)
 | [],p=>[p]
 |l::cb,p=>(dP (dS l p) (eK l p)).flatMap λv=>fF cb (p++[v])
def fO:List Loop->List Int->Int
 | [],_=>1
 |l::cb,p=>1+((dP (dS l p) (eK l p)).map λv=>fO cb (p++[v])).sum
theorem nP{k:Type}(f:k->Int): ∀(l:List k),(∀x∈l,1<=f x)->(l.length:Int)<=(l.map f).sum
 | [],_=>bl
 |x::l,h=>by have b:=nP f l λy a=>h y (by simp[a]);have c:=h x bl;simp only[hg,List.sum_cons,List.length_cons];omega
theorem Cv: ∀(cb:List Loop) (p:List Int),1<=fO cb p
 | [],p=>hA _
 |l::cb,p=>by have:=nP (λv=>fO cb (p++[v])) (dP (dS l p) (eK l p)) λv _=>Cv cb _;simp only[fO];omega
def Fit(a:List Loop):Prop:=a.length<=4/\ ∀(i:Nat) l,a[i]? =aa l->fB l.bo (i:Int)=ab/\fB l.aL (i:Int)=ab
theorem Ct{nest:List Loop}(h:lk nest=ab):Fit nest:=by
 simp only[lk,cB,decide_eq_true_eq] at h;refine⟨h.2,λi l a=>?_⟩
 have:=FE h.1 a
 grind
theorem A9{l:Loop}{q:List Loop}(h:o.drop k=l::q):o[k]? =aa l/\o.drop (k+1)=q/\k<o.length:=by
 have a:(o.drop k)[0]? =aa l:=by rw[h];rfl
 rw[fv,nS] at a;refine⟨a,?_,(d6.1 a).1⟩
 have:(o.drop k).drop 1=q:=by rw[h];rfl
 rwa [List.drop_drop] at this
theorem B2(h:o.drop k=[])(a:k<=o.length):k=o.length:=by
 have:(o.drop k).length=0:=by rw[h];rfl
 grind
theorem mB(p:List Int)(h:p.length<=1100000):app [] p=aa p:=by rw[dM cd];rfl
theorem NP(l:List Int)(f:Int->Int)(v:Int):((l++[v]).map f).sum=(l.map f).sum+f v:=bl
theorem aek{bo:Int}(h:bo<=v):((dP bo v).length:Int)=v-bo:=by unfold dP;simp;omega
theorem Ny{b:List Loop}(B:Fit b): ∀(cb:List Loop) (n k:Nat) (p:List Int) (a:Int),5500000+cb.length<=n->b.drop k=cb->k<=b.length->il k p->0<=a->a<=1200->
  ad (rH n b p a) (λr=>(fO cb p<=a->r=fO cb p)/\(a<fO cb p->a<r)/\1<=r/\r<=a+1)
 | [],n,k,p,a,K,C,L,m,N,P=>by
  obtain⟨n,rfl⟩: ∃j,n=j+1:=⟨n-1,O⟩
  have S:=B2 C L;have o:=m.1;unfold rH;rw[bS (show(p.length:Int)=(b.length:Int) by omega)];exact ad.some ⟨λ_=>rfl,λh=>by simp only[fO] at h;omega,O,O⟩
 |l::cb,n,k,p,a,K,C,L,m,N,P=>by
  obtain⟨n,rfl⟩: ∃j,n=j+1:=⟨n-1,O⟩
  obtain⟨Q,T,d3⟩:=A9 C;obtain⟨R,W⟩:=B.2 k l Q;have o:=m.1;have D:k<=3:=by have:=B.1;omega
  simp only[List.length_cons] at K;unfold rH;rw[bR (show¬(p.length:Int)=(b.length:Int) by omega)];refine b1 (ag (x:=l) (by rw[o];exact bq Q) (ag (Mh O R W m) ?_));let f:Int->Int:=λv=>fO cb (p++[v]);have q: ∀v,1<=f v:=λv=>Cv _ _;have U:fO (l::cb) p=1+((dP (dS l p) (eK l p)).map f).sum:=rfl;refine ad.loop (λx:Int×Int=>dS l p<=x.2/\(x.2<=eK l p\/x.2=dS l p)/\(1+((dP (dS l p) x.2).map f).sum<=a->x.1=1+((dP (dS l p) x.2).map f).sum)/\(a<1+((dP (dS l p) x.2).map f).sum->a<x.1)/\1<=x.1/\x.1<=a+1)
   (λx=>(a+1-x.1).toNat) ?_ n _ ⟨hA _,.inr rfl,λ_=>by rw[lU (hA _)];rfl,λh=>by rw[lU (hA _)] at h;simp at h;dsimp only;omega,Z,Z⟩ Z
  rintro F ⟨x,v⟩ ⟨A,X,G,H,g,t⟩ V;dsimp only at A X G H g t⊢;refine ad.aQ (λz=>z=aj (v<eK l p/\x<=a)) (λj u=>aV (λh=>u _ ?_) λh=>u _ ?_) λz Y=>?_
  ·by_cases d:x<=a
   ·rw[bS d,bS ⟨h,d⟩]
   rw[bR d,bR λh=>d h.2]
  ·rw[bR λE=>h E.1]
  subst Y;refine aV (λ⟨e,d⟩=>?_) λs=>ad.some ?_
  ·have w:x=1+((dP (dS l p) v).map f).sum:=G (by apply Int.not_lt.1;intro h;have:=H h;omega);have i:=Cb R W m D ⟨A,e⟩;have e1:wr (a-x)=a-x:=by rw[bf O]
   rw[e1];refine ag (mB p O) (ag (dM cd) (hE (Ny B cb n (k+1) (p++[v]) (a-x) O T O i O O) λr ⟨tJ,wN,alh,ali⟩=>?_));have akc:v<eK l p:=e;have R4: -1000000000<=v/\v<=1000000000:=by
    have h9:=i.2.2 v bl;have mC:=sE i.2.1;simp only[c3] at h9;omega
   rw[bf (n:=v+1) O,bf (n:=x+r) O];have I:1+((dP (dS l p) (v+1)).map f).sum=x+f v:=by rw[ud A,NP,w];omega
   refine V _ ⟨Z,.inl Z,?_,?_,Z,Z⟩ Z
   ·dsimp only;rw[I];intro h
    have:r=f v:=tJ (O:f v<=a-x);omega
   dsimp only;rw[I];intro h
   have:a-x<r:=wN (O:a-x<f v);omega
  have c:1+((dP (dS l p) v).map f).sum<=fO (l::cb) p/\(eK l p<=v->1+((dP (dS l p) v).map f).sum=fO (l::cb) p):=by
   rw[U];by_cases h:v<eK l p
   ·refine⟨?_,λE=>O⟩;rw[AR A h,ib,List.sum_append,hg,List.sum_cons]
    have:=nP f (dP (v+1) (eK l p)) λy _=>q y
    have:=q v;omega
   have:dP (dS l p) v=dP (dS l p) (eK l p):=by
    rcases X with M|M
    ·rw[show v=eK l p by omega]
    subst M;rw[lU (hA _),lU O]
   rw[this];exact⟨hA _,λ_=>rfl⟩
  refine⟨λh=>?_,λh=>?_,g,t⟩
  ·have d:=G O;rw[d];apply c.2;apply Int.not_lt.1;intro e;exact s ⟨e,O⟩
  apply Int.not_le.1;intro d;have e:eK l p<=v:=by apply Int.not_lt.1;intro e;exact s ⟨e,d⟩
  have:=H (by rw[c.2 e];exact h);omega
theorem E9{a:List Loop}(A:Fit a): ∀(cb:List Loop) (n k:Nat) (p:List Int) (out:List (List Int)),5500000+cb.length<=n->a.drop k=cb->k<=a.length->il k p->fO cb p<=1200->out.length<=120->
  ad (p4 n out a p) (λr=>(out.length+(fF cb p).length<=120->r=out++fF cb p)/\(120<out.length+(fF cb p).length->120<r.length))
 | [],n,k,p,out,Q,B,R,o,W,T=>by
  obtain⟨n,rfl⟩: ∃j,n=j+1:=⟨n-1,O⟩
  have U:=B2 B R;have q:=o.1;have C:=A.1;unfold p4;rw[bS (show(p.length:Int)=(a.length:Int) by omega)];refine bW (ag (mB p O) (ag (dM cd) (ad.some ⟨λ_=>rfl,λh=>by simp[fF] at h ⊢; omega⟩)))
 |l::cb,n,k,p,out,Q,B,R,o,W,T=>by
  obtain⟨n,rfl⟩: ∃j,n=j+1:=⟨n-1,O⟩
  obtain⟨X,V,d3⟩:=A9 B;obtain⟨t,u⟩:=A.2 k l X;have q:=o.1;have C:=A.1;have D:k<=3:=O
  simp only[List.length_cons] at Q;unfold p4;rw[bR (show¬(p.length:Int)=(a.length:Int) by omega)];refine b1 (ag (x:=l) (by rw[q];exact bq X) (ag (Mh O t u o) ?_));let f:Int->Int:=λv=>fO cb (p++[v]);have e: ∀v,1<=f v:=λv=>Cv _ _;have Y:fO (l::cb) p=1+((dP (dS l p) (eK l p)).map f).sum:=rfl;let g:Int->List (List Int):=λv=>fF cb (p++[v]);have yI:fF (l::cb) p=(dP (dS l p) (eK l p)).flatMap g:=rfl;have E:dS l p<=eK l p->eK l p-dS l p<=1199:=λF=>by
   have:=nP f (dP (dS l p) (eK l p)) λy _=>e y
   have:=aek F;omega
  refine ad.loop (λx:List (List Int)×Int=>dS l p<=x.2/\(x.2<=eK l p\/x.2=dS l p)/\(out.length+((dP (dS l p) x.2).flatMap g).length<=120->x.1=out++(dP (dS l p) x.2).flatMap g)/\(120<out.length+((dP (dS l p) x.2).flatMap g).length->120<x.1.length))
   (λx=>(eK l p-x.2).toNat) ?_ n _ ⟨hA _,.inr rfl,λ_=>by rw[lU (hA _)];simp,λh=>by rw[lU (hA _)] at h;simp at h;omega⟩ Z
  rintro G ⟨x,v⟩ ⟨s,I,H,K⟩ b6;dsimp only at s I H K⊢;refine ad.aQ (λz=>z=aj (v<eK l p/\x.length<=120)) (λj M=>aV (λh=>M _ ?_) λh=>M _ ?_) λz et=>?_
  ·by_cases c:x.length<=120
   ·rw[bS (show(x.length:Int)<=120 by omega),bS ⟨h,c⟩]
   rw[bR (show¬(x.length:Int)<=120 by omega),bR λh=>c h.2]
  ·rw[bR λN=>h N.1]
  subst et;refine aV (λ⟨d,c⟩=>?_) λw=>ad.some ?_
  ·have i:x=out++(dP (dS l p) v).flatMap g:=H (by apply Nat.not_lt.1;intro h;have:=K h;omega);have m:=Cb t u o D ⟨s,d⟩;have L:f v<=1200:=by
    rw[Y,AR s d,ib,List.sum_append,hg,List.sum_cons] at W
    have:=nP f (dP (v+1) (eK l p)) λy _=>e y
    have:=nP f (dP (dS l p) v) λy _=>e y;omega
   refine ag (mB p O) (ag (dM cd) (hE (E9 A cb n (k+1) (p++[v]) x O V O m L c) λr ⟨tJ,wN⟩=>?_));have R4: -1000000000<=v/\v<=1000000000:=by
    have h9:=m.2.2 v bl;have mC:=sE m.2.1;simp only[c3] at h9;omega
   rw[bf (n:=v+1) O];have P:(dP (dS l p) (v+1)).flatMap g=(dP (dS l p) v).flatMap g++g v:=by rw[ud s,qi];simp
   refine b6 _ ⟨Z,.inl Z,?_,?_⟩ Z
   ·dsimp only;rw[P];intro h;simp only[iJ] at h;have cS:x.length=out.length+((dP (dS l p) v).flatMap g).length:=by rw[i,dQ]
    rw[tJ (O:x.length+(g v).length<=120),i,hf]
   dsimp only;rw[P];intro h;simp only[iJ] at h;have cS:x.length=out.length+((dP (dS l p) v).flatMap g).length:=by rw[i,dQ]
   exact wN (O:120<x.length+(g v).length)
  have b:((dP (dS l p) v).flatMap g).length<=(fF (l::cb) p).length/\(eK l p<=v->(dP (dS l p) v).flatMap g=fF (l::cb) p):=by
   rw[yI];by_cases h:v<eK l p
   ·refine⟨?_,λN=>O⟩;rw[AR s h,qi,dQ];omega
   have:dP (dS l p) v=dP (dS l p) (eK l p):=by
    rcases I with S|S
    ·rw[show v=eK l p by omega]
    subst S;rw[lU (hA _),lU O]
   rw[this];exact⟨df _,λ_=>rfl⟩
  refine⟨λh=>?_,λh=>?_⟩
  ·have c:=H O;rw[c,b.2];apply Int.not_lt.1;intro d;exact w ⟨d,by rw[c,dQ];omega⟩
  apply Nat.not_le.1;intro c;have d:eK l p<=v:=by apply Int.not_lt.1;intro d;exact w ⟨d,c⟩
  have:=K (by rw[b.2 d];exact h);omega
theorem Nj{a:List Loop}(A:Fit a): ∀(cb:List Loop) (n k:Nat) (p:List Int) (st:Int) (out:List (List Int)),5500000+cb.length<=n->a.drop k=cb->k<=a.length->il k p->0<=st->st<=1199->out.length<=120->
  ad (re n ⟨a,st,out⟩ p) (λr=>(st+fO cb p<=1200/\out.length+(fF cb p).length<=120->r=(ab,⟨a,st+fO cb p-1,out++fF cb p⟩))/\(¬(st+fO cb p<=1200/\out.length+(fF cb p).length<=120)->r.1=al))
 | [],n,k,p,st,out,R,C,W,i,X,t,m=>by
  obtain⟨n,rfl⟩: ∃j,n=j+1:=⟨n-1,O⟩
  have pF:=B2 C W;have q:=i.1;have D:=A.1;unfold re;dsimp only;rw[bS (show(p.length:Int)=(a.length:Int) by omega)];have c:jG p=aa p:=by unfold jG;rw[bg O]
  refine bW (ag c (ag (dM cd) (ad.some ⟨λh=>?_,λh=>?_⟩)))
  ·simp only[fO,fF,List.length_singleton] at h⊢;rw[bS cd,show st+1-1=st by omega]
  simp only[fO,fF,List.length_singleton] at h⊢;exact bR cd
 |l::cb,n,k,p,st,out,R,C,W,i,X,t,m=>by
  obtain⟨n,rfl⟩: ∃j,n=j+1:=⟨n-1,O⟩
  obtain⟨u,d2,d3⟩:=A9 C;obtain⟨E,I⟩:=A.2 k l u;have q:=i.1;have D:=A.1;have F:k<=3:=O
  simp only[List.length_cons] at R;unfold re;dsimp only;rw[bR (show¬(p.length:Int)=(a.length:Int) by omega)];refine b1 (ag (x:=l) (by rw[q];exact bq u) (ag (abj O E I i) ?_));let f:Int->Int:=λv=>fO cb (p++[v]);have b: ∀v,1<=f v:=λv=>Cv _ _;have M:fO (l::cb) p=1+((dP (dS l p) (eK l p)).map f).sum:=rfl;let g:Int->List (List Int):=λv=>fF cb (p++[v]);have N:fF (l::cb) p=(dP (dS l p) (eK l p)).flatMap g:=rfl;refine ad.loop (λx:List Loop×Int×List (List Int)×Int=>x.1=a/\dS l p<=x.2.2.2/\(x.2.2.2<=eK l p\/x.2.2.2=dS l p)/\x.2.1=st+((dP (dS l p) x.2.2.2).map f).sum/\x.2.2.1=out++(dP (dS l p) x.2.2.2).flatMap g/\0<=x.2.1/\x.2.1<=1199/\x.2.2.1.length<=120)
   (λx=>(1200-x.2.1).toNat) ?_ n _ ⟨rfl,hA _,.inr rfl,by dsimp only;rw[lU (hA _)];simp,by dsimp only;rw[lU (hA _)];simp,X,t,m⟩ Z
  rintro G ⟨H,x,o,v⟩ ⟨P,s,S,B,e,i5,i6,T⟩ b6;dsimp only at P s S B e i5 i6 T⊢;subst P;have pI:o.length=out.length+((dP (dS l p) v).flatMap g).length:=by rw[e,dQ]
  refine aV (λK=>?_) λK=>ad.some ?_
  ·have d:=Cb E I i F ⟨s,K⟩;have L:fO (l::cb) p≥1+((dP (dS l p) v).map f).sum+f v/\(fF (l::cb) p).length≥((dP (dS l p) v).flatMap g).length+(g v).length:=by
    rw[M,N,AR s K,ib,List.sum_append,hg,List.sum_cons,qi,dQ,List.flatMap_cons,dQ]
    have:=nP f (dP (v+1) (eK l p)) λy _=>b y;constructor
    ·omega
    omega
   have R4: -1000000000<=v/\v<=1000000000:=by
    have h9:=d.2.2 v bl;have mC:=sE d.2.1;simp only[c3] at h9;omega
   have e1:wr (x+1)=x+1:=by rw[bf O]
   have e2:wr (x+1+1)=x+1+1:=by rw[bf O]
   have mA:wr (v+1)=v+1:=by rw[bf O]
   rw[e1,e2,mA];refine ad.aQ (λz:List Loop×Int×List (List Int)×Bool=>(z.2.2.2=al->z.1=H/\x+f v<=1199/\o.length+(g v).length<=120/\z.2.1=x+f v/\z.2.2.1=o++g v)/\(z.2.2.2=ab-> ¬(st+fO (l::cb) p<=1200/\out.length+(fF (l::cb) p).length<=120)))
    (λj Q=>aV (λh=>Q _ ⟨λyG=>(by cases yG),λ_=>?_⟩) λh=>?_) λz et=>?_
   ·have:=b v;omega
   ·have c:jG p=aa p:=by unfold jG;rw[bg O]
    refine ag c (ag (dM cd) (hE (Nj A cb n (k+1) (p++[v]) (x+1) o O d2 O d O O T) λr ⟨tJ,wN⟩=>?_));by_cases c:x+1+f v<=1200/\o.length+(g v).length<=120
    ·rw[tJ c];exact Q _ ⟨λ_=>⟨rfl,O,c.2,show x+1+f v-1=x+f v by omega,rfl⟩,λh=>(by cases h)⟩
    have w:=wN c;obtain⟨alj,⟨bs,alk,ro⟩⟩:=r;dsimp only at w⊢;subst w;exact Q _ ⟨λh=>(by cases h),λ_=>O⟩
   obtain⟨KL,alr,als,ak9⟩:=z;obtain⟨U,V⟩:=et;dsimp only at U V⊢;cases ak9 with
   |true=>exact ad.some ⟨λh=>br h (V rfl),λ_=>rfl⟩
   |false=>
    obtain⟨rfl,EP,KK,TG,Y⟩:=U rfl;refine b6 _ ⟨rfl,Z,.inl Z,?_,?_,by dsimp only;have:=b v;omega,Z,?_⟩ (by dsimp only;have:=b v;omega)
    ·dsimp only;rw[ud s,NP,TG,B];omega
    ·dsimp only;rw[Y,e,ud s,qi];simp
    dsimp only;rw[Y,dQ];exact KK
  have:dP (dS l p) v=dP (dS l p) (eK l p):=by
   rcases S with m|m
   ·rw[show v=eK l p by omega]
   subst m;rw[lU (hA _),lU O]
  rw[this] at B e pI;rw[<-N] at e pI;refine⟨λh=>?_,λh=>?_⟩
  ·rw[e,B,M,show st+(1+((dP (dS l p) (eK l p)).map f).sum)-1=st+((dP (dS l p) (eK l p)).map f).sum by omega]
  exact br ⟨O,O⟩ h
def jR(a:List Loop):Option (List (List Int)):=if lk a=ab/\fO a []<=1200/\(fF a []).length<=120 then aa (fF a []) else none
def sJ:Option (List (List Int))->List (List Int)×Bool
 |none=>([],al)
 |some l=>(l,ab)
theorem zp:il 0 []:=⟨rfl,O,λx h=>by cases h⟩
theorem U7(i:6600000<=n)(h:qC o):Ed n o=aa (sJ (jR o)):=by
 refine ad.eq ?_;unfold Ed;refine ag (Vv O h) ?_;unfold jR;cases c:lk o with
 |false=>exact ad.some (by simp[sJ])
 |true=>
  have b:=Ct c;refine hE (Nj b o n 0 [] 0 [] (by have:=b.1;omega) rfl O zp O O bl) λr ⟨d,e⟩=>?_;by_cases a:(0:Int)+fO o []<=1200/\([]:List (List Int)).length+(fF o []).length<=120
  ·rw[d a,bg ⟨rfl,O,by simpa using a.2⟩];exact ad.some (by simp[sJ])
  rw[e a,be λh=>a ⟨O,by simpa using h.2.2⟩];exact ad.some rfl
theorem U4(m:6600000<=n)(h:qC o):Ea n o=aa (sJ (jR o)):=by
 refine ad.eq ?_;unfold Ea;refine ad.aQ (λz=>z= !(lk o&&aj (fO o []<=1200))) (λj k=>ag (Vr O h) ?_) λz l=>?_
 ·cases b:lk o with
  |false=>exact k _ (by rw[b];rfl)
  |true=>
   have c:=Ct b;refine hE (Ny c o n 0 [] 1200 (by have:=c.1;omega) rfl O zp O O) λr ⟨d,e,p,q⟩=>k _ ?_;rw[b,gg];by_cases a:fO o []<=1200
   ·rw[bS a,bR (by rw[d a];omega)];rfl
   rw[bR a,bS (e O)];rfl
 subst l;unfold jR;cases b:lk o with
 |false=>exact ad.some (by simp[sJ])
 |true=>
  have c:=Ct b;by_cases a:fO o []<=1200
  ·rw[bS a];refine hE (E9 c o n 0 [] [] (by have:=c.1;omega) rfl O zp a bl) λr ⟨d,e⟩=>?_;by_cases i:(fF o []).length<=120
   ·rw[d (by simpa using i),bg ⟨rfl,a,i⟩];refine aV (λh=>br h cd) λ_=>ad.some (by simp[sJ])
   have:=e cd;rw[be λh=>i h.2.2];exact aV (λ_=>ad.some rfl) λh=>br h O
  rw[bR a,be λh=>a h.2.1];exact ad.some rfl
def nX(s:List UInt8):Bool:=match s with
 | [b]=>decide (65<=b.toNat/\b.toNat<=68)
 |_=>al
theorem Au(h:s.length≠1):nX s=al:=by
 match s,h with
 | [],_=>rfl
 | [b],h=>exact br rfl h
 |_::_::_,_=>rfl
theorem IL(h:s.length=1): ∃b,s=[b]:=by
 match s,h with
 | [b],_=>exact⟨b,rfl⟩
theorem yo(b:UInt8)(k:Nat)(a:k<256):(b=UInt8.ofNat k)↔b.toNat=k:=by
 constructor
 ·intro h;rw[h];simp;omega
 intro h;rw[<-h];simp
theorem Wz(b:UInt8):Lib.contains [65,66,67,68] [b]=aj (65<=b.toNat/\b.toNat<=68):=by
 have h:(b=65)↔b.toNat=65:=yo b 65 O;have i:(b=66)↔b.toNat=66:=yo b 66 O;have k:(b=67)↔b.toNat=67:=yo b 67 O;have l:(b=68)↔b.toNat=68:=yo b 68 O;by_cases a:b=65
 ·subst a;decide
 by_cases c:b=66
 ·subst c;decide
 by_cases d:b=67
 ·subst d;decide
 by_cases e:b=68
 ·subst e;decide
 rw[h] at a;rw[i] at c;rw[k] at d;rw[l] at e;rw[bR O];rw[<-h] at a;rw[<-i] at c;rw[<-k] at d;rw[<-l] at e;simp[Lib.contains,Lib.index,a,c,d,e]
theorem LG(n:Nat)(s:List UInt8):Aj n s=aa (nX s):=by
 unfold Aj;by_cases h:s.length=1
 ·obtain⟨b,rfl⟩:=IL h;simp only[aQ,zc];rw[bg bl,Wz];rfl
 rw[bR (show¬(s.length:Int)=1 by omega),Au h];rfl
theorem MJ(b:UInt8):Op.bytesLess [b] [65]=aj (b.toNat<65):=by simp[Op.bytesLess,UInt8.lt_iff_toNat_lt]
theorem MI(b:UInt8):(Op.bytesLess [b] [68]||[b]==[68])=aj (b.toNat<=68):=by
 have e:(b=68)↔b.toNat=68:=yo b 68 O;by_cases h:b=68
 ·subst h;decide
 have c:b.toNat≠68:=λa=>h (e.2 a)
 have:([b]==[(68:UInt8)])=al:=by simp[h]
 rw[this,Bool.or_false];simp only[Op.bytesLess,Bool.and_false,Bool.or_false,UInt8.lt_iff_toNat_lt]
 grind
def fU(a:cx)(d:Int):Bool:=a.a7.all (λx=>fA x d)&&(nX a.array&&aj (1<=a.a7.length/\a.a7.length<=2))
theorem aaH(b:5500000<=n)(c:iu a)(d:Int):zq n a d=aa (!fA a d):=Mt b c d
theorem Ld(b:5500000<=n){a:cx}(c:jY a.a7)(d:Int):zZ n a d=aa (fU a d):=by
 obtain⟨k,e⟩:=c;unfold zZ;rw[LG,E1];have bU:=y8 (n:=n) (f:=λh=>zq n h d) (p:=λa=> !fA a d) (l:=a.a7) (λx i=>aaH b (e x i) d) O O;simp only[aQ,bI];rw[bU];unfold fU
 grind
theorem K'(B:5500000<=n){a:cx}(q:jY a.a7)(d:Int):zK n a d=aa (fU a d):=by
 obtain⟨F,C⟩:=q;refine ad.eq ?_;unfold zK;refine qb (l:=a.a7) (p:=λ_ a=>fA a d) O O (λk i x r w y=>?_) (λk o=>?_) (λ⟨i,x,r,G⟩=>?_)
 ·have aL:=(d6.1 r).1;have hm:=C x (bX r);rw[bS (show(i:Int)<(a.a7.length:Int) by omega)];refine bW (ad.aQ (λz=>z= !fA x d) (λj m=>ag (bq r) (ag (Ke B x hm) ?_)) λz A=>?_)
  ·cases q:de x with
   |false=>exact m _ (by unfold fA;rw[q];rfl)
   |true=>exact ag (zQ B hm) (m _ (by unfold fA;rw[q,J5];simp))
  subst A;cases s:fA x d with
  |true=>show ad (k _) _;rw[bf O];exact w s
  |false=>exact ad.some (y s)
 ·rw[bR (show¬(a.a7.length:Int)<(a.a7.length:Int) by omega)];have e:a.a7.all (λa=>fA a d)=ab:=gx.2 λc D=>by obtain⟨i,aL⟩:=kT D;exact o i c aL
  unfold fU;rw[e,gg];refine b1 (ad.aQ (λz=>z=(nX a.array&&aj (1<=a.a7.length/\a.a7.length<=2))) (λj m=>?_) λz A=>ad.some A);by_cases h:a.array.length=1
  ·rw[bS (show(a.array.length:Int)=1 by omega)];obtain⟨b,s⟩:=IL h;rw[s] at m⊢;rw[MJ,MI];show ad (bif _ then _ else _) _;simp only[nX] at m⊢
   grind
  rw[bR (show¬(a.array.length:Int)=1 by omega)];exact m _ (by rw[Au h];rfl)
 unfold fU
 grind
def iY(a:aE):Bool:=aj (a.aK.length=0)&&aj (a.const=0)
def kj(a:cx):Bool:=aj (a.array=[])&&aj (a.a7.length=0)
theorem C0(k:Nat):aj ((k:Int)=0)=aj (k=0):=decide_eq_decide.2 O
theorem Wv(n:Nat)(a:aE):zV n a=aa (iY a):=by unfold zV iY;rw[C0];cases aj (a.aK.length=0)<;>rfl
theorem X4(n:Nat)(a:aE):xn n a=aa (iY a):=by unfold xn iY;rw[C0];cases aj (a.aK.length=0)<;>rfl
theorem Ww(n:Nat)(a:cx):tA n a=aa (kj a):=by unfold tA kj;rw[C0];cases aj (a.array=[])<;>rfl
theorem Xb(n:Nat)(a:cx):w1 n a=aa (kj a):=by unfold w1 kj;rw[C0];cases aj (a.array=[])<;>rfl
def eJ(e:Expr)(d:Int):Bool:=
 if e.kind=2 then aj (e.num=0)&&(kj e.read&&fA e.index d)
 else if e.kind=3 then aj (e.num=0)&&(iY e.index&&fU e.read d)
 else if e.kind=1 then aj (0<=e.num/\e.num<=99)&&(iY e.index&&kj e.read)
 else aj (e.num=0)&&(iY e.index&&kj e.read)
def fK(k:Int):Int:=if k=1\/k=2\/k=3 then 0 else if k=4\/k=5\/k=6 then 2 else-1
theorem X5(n:Nat)(k:Int):Bz n k=aa (fK k):=by
 unfold Bz fK;by_cases a:k=1
 ·subst a;rfl
 by_cases b:k=2
 ·subst b;rfl
 by_cases c:k=3
 ·subst c;rfl
 by_cases d:k=4
 ·subst d;rfl
 by_cases e:k=5
 ·subst e;rfl
 by_cases h:k=6
 ·subst h;rfl
 simp[aQ,a,b,c,d,e,h]
theorem Zf(a:5500000<=n){e:Expr}(b:iu e.index)(c:jY e.read.a7)(d:Int):B' n e d=aa (eJ e d):=by
 unfold B' eJ;rw[Xb,X4,Ke a _ b,zQ a b,K' a c];by_cases cP:e.kind=2
 ·rw[bg cP,bS cP];simp only[aQ,bI,cond_true,fA]
  grind
 rw[be cP,bR cP];by_cases eu:e.kind=3
 ·rw[bg eu,bS eu];simp only[aQ,bI,cond_true,cond_false]
  grind
 rw[be eu,bR eu];by_cases cA:e.kind=1
 ·rw[bg cA,bS cA];simp only[aQ,bI,cond_true,cond_false]
  grind
 rw[be cA,bR cA];simp only[aQ,bI,cond_false]
 grind
end
section
def uC:Nat->Expr->Prop
 |0,_=>True
 |L+1,e=>e.a1.length<=1100000/\iu e.index/\jY e.read.a7/\ ∀k∈e.a1,uC L k
def dF:Nat->Expr->Int->Bool
 |0,_,_=>al
 |L+1,e,d=>decide (fK e.kind=e.a1.length)&&(eJ e d&&e.a1.all λk=>dF L k d)
def dI:Nat->Expr->Int
 |0,_=>1
 |L+1,e=>1+(e.a1.map (dI L)).sum
theorem oX(k:Int):fK k<=2:=by unfold fK;split;omega;split<;>omega
theorem Lv(d:Int): ∀(L n:Nat) (e:Expr),5500000+L<=n->L<=1100000->uC L e->rJ (n+1) e d (L:Int)=aa (dF L e d)
 |0,n,e,_,_,_=>by unfold rJ;rfl
 |L+1,n,e,K,Q,y=>by
  obtain⟨R,A,B,C⟩:=y;unfold rJ;refine ad.eq ?_;refine ad.aQ (λz=>z= !(aj (fK e.kind=e.a1.length)&&eJ e d)) (λj r=>aV (λh=>O) λh=>ag (X5 n _) (dV (λh=>r _ ?_) λh=>ag (Zf O A B d) (r _ ?_))) λz D=>?_
  ·rw[bR h];rfl
  ·rw[bS h];rfl
  subst D;unfold dF;cases s:(aj (fK e.kind=e.a1.length)&&eJ e d) with
  |false=>exact ad.some (by rw[<-l5,s];rfl)
  |true=>
   rw[<-l5,s,gg];refine b1 ?_;obtain⟨n,rfl⟩: ∃j,n=j+1:=⟨n-1,O⟩
   have F:wr (((L+1:Nat):Int)-1)=(L:Int):=by rw[bf O];omega
   rw[F];refine qb (l:=e.a1) (p:=λ_ k=>dF L k d) O O (λa i x b o q=>?_) (λa m=>?_) (λ⟨i,x,b,G⟩=>?_)
   ·have aL:=(d6.1 b).1;rw[bS (show(i:Int)<(e.a1.length:Int) by omega)];refine bW (ag (bq b) (ag (Lv d L n x O O (C x (bX b))) ?_));cases w:dF L x d with
    |true=>show ad (a _) _;rw[bf O];exact o w
    |false=>exact ad.some (q w)
   ·rw[bR (show¬(e.a1.length:Int)<(e.a1.length:Int) by omega)];refine ad.some ?_;exact(gx.2 λc H=>by obtain⟨i,aL⟩:=kT H;exact m i c aL).symm
   exact(l4.2 ⟨x,bX b,by rw[G];simp⟩).symm
theorem rU: ∀(L:Nat) (e:Expr),1<=dI L e
 |0,_=>hA _
 |L+1,e=>by have:=nP (dI L) e.a1 λk _=>rU L k;simp only[dI];omega
theorem Cx{k:Type}(f:k->Int)(M:Int): ∀(l:List k),(∀x∈l,f x<=M)->(l.map f).sum<=l.length*M
 | [],_=>bl
 |x::l,h=>by have b:=Cx f M l λy a=>h y (by simp[a]);have c:=h x bl;simp only[hg,List.sum_cons,List.length_cons,Int.natCast_add,Int.add_mul];omega
variable {d c:Int}{n i k:Nat}{s:Stmt}{r:List cC}{x:Part}{a:cx}{p:Prog}{q m:List Int}
theorem hl{L:Nat}{e:Expr}(h:dF (L+1) e d=ab):fK e.kind=e.a1.length/\eJ e d=ab/\ ∀k∈e.a1,dF L k d=ab:=by
 simp only[dF,cB,decide_eq_true_eq,kp] at h
 grind
theorem CD: ∀{L:Nat} {e:Expr} {d:Int},dF L e d=ab->dI L e+1<=2^L
 |0,e,d,h=>by cases h
 |L+1,e,d,h=>by
  obtain⟨c,_,a⟩:=hl h;have i:=Cx (dI L) ((2:Int)^L-1) e.a1 λk b=>by have:=CD (a k b);omega
  have l:=oX e.kind;have m:(e.a1.length:Int)*((2:Int)^L-1)<=2*((2:Int)^L-1):=by
   refine Int.mul_le_mul_of_nonneg_right O ?_
   have:(0:Int)<2^L:=Int.pow_pos O;omega
  simp only[dI];rw[Int.pow_succ];omega
theorem Lw{d:Int}: ∀(L n:Nat) (e:Expr),5500000+L<=n->L<=5->dF L e d=ab->tP (n+1) e (L:Int)=aa (dI L e)
 |0,n,e,_,_,h=>by cases h
 |L+1,n,e,H,r,h=>by
  obtain⟨K,_,o⟩:=hl h;have Q:=oX e.kind;have p: ∀k∈e.a1,dI L k<=40:=λk b=>by
   have R:=CD (o k b);have W:(2:Int)^L<=40:=by
    match L,r with
    |0,_=>decide
    |1,_=>decide
    |2,_=>decide
    |3,_=>decide
    |4,_=>decide
   omega
  unfold tP;refine ad.eq ?_;obtain⟨n,rfl⟩: ∃j,n=j+1:=⟨n-1,O⟩
  have s:wr (((L+1:Nat):Int)-1)=(L:Int):=by rw[bf O];omega
  rw[s];refine ad.loop (λx:Int×Int=> ∃i:Nat,x.2=i/\i<=e.a1.length/\x.1=1+((e.a1.take i).map (dI L)).sum) (λx=>e.a1.length-x.2.toNat) ?_ (n+1) _ ⟨0,rfl,O,bl⟩ cd;rintro c ⟨x,k⟩ ⟨i,b,X,l⟩ w;dsimp only at b l⊢;subst b;refine ad.aQ (λz=>z=aj (i<e.a1.length)) (λj q=>aV (λh=>q _ ?_) λh=>q _ ?_) λz A=>?_
  ·rw[bS (show(0:Int)<((L+1:Nat):Int) by omega),bS O]
  ·rw[bR O]
  subst A;refine aV (λm=>?_) λB=>ad.some ?_
  ·have a:=bD m;have hm:=bX a;refine ag (bq a) (ag (Lw (d:=d) L n _ O O (o _ hm)) ?_);have hs:=Cx (dI L) 40 (e.a1.take i) λy C=>p y (gm C);have D:=nP (dI L) (e.a1.take i) λy _=>rU L y;have F:=p _ hm;have G:=rU L e.a1[i];have f:((e.a1.take i).length:Int)<=2:=cd
   rw[bf (n:=x+dI L e.a1[i]) O,bf O];refine w _ ⟨i+1,Z,O,?_⟩ Z;dsimp only;rw[eN,a,ib,List.sum_append,l];simp;omega
  have:i=e.a1.length:=O
  rw[l,this,eb];rfl
def ym(e:Expr):Bool:=(aj (e.kind=1)||decide (e.num=0))&&((aj (e.kind=2)||iY e.index)&&(aj (e.kind=3)||kj e.read))
theorem KD(d:Int): ∀(L n:Nat) (e:Expr) (c:Int),5500000+L<=n->L<=5->uC L e->0<=c->c<=12->
  ad (pO (n+1) e d (6-(L:Int)) c) (λr=>r.1=(dF L e d&&aj (c+dI L e<=12))/\(r.1=ab->r.2=c+dI L e))
 |0,n,e,c,N,P,u,S,T=>by
  unfold pO;refine ad.aQ (λz=>z=ab) (λj i=>aV (λh=>i _ rfl) λh=>i _ (by decide)) λz m=>?_;subst m;exact ad.some ⟨rfl,λh=>by cases h⟩
 |L+1,n,e,c,N,P,u,S,T=>by
  obtain⟨e1,v,U,E⟩:=u;have V:=rU (L+1) e;unfold pO;have Y:wr (c+1)=c+1:=bf O;have akL:wr (6-(((L+1:Nat)):Int)+1)=6-(L:Int):=by rw[bf O];omega
  rw[Y,akL];refine ad.aQ (λz=>z=aj (12<c+1)) (λj i=>aV (λh=>i _ (bS h).symm) λh=>i _ ?_) λz m=>?_
  ·rw[bR h,bR O]
  subst m;refine aV (λh=>ad.some ⟨?_,λh=>by cases h⟩) λbU=>?_
  ·rw[bR (show¬c+dI (L+1) e<=12 by omega),kn]
  refine ad.aQ (λz=>z= !ym e) (λj i=>?_) λz m=>?_
  ·rw[Wv,Ww];unfold ym at i;simp only[bI];by_cases cA:e.kind=1
   ·have cP: ¬e.kind=2:=O
    have eu: ¬e.kind=3:=O
    rw[bS cA,bR cP,bR eu] at*;simp only[Bool.not_true,Bool.not_false,cond_true,cond_false,Bool.true_or,Bool.true_and,Bool.false_or] at*;cases K:iY e.index with
    |false=>exact i _ (by rw[K];rfl)
    |true=>exact i _ (by rw[K];rfl)
   rw[bR cA] at*;simp only[Bool.not_false,cond_true,Bool.false_or] at*;by_cases o:e.num=0
   ·rw[bS o] at*;simp only[Bool.not_true,cond_false,Bool.true_and] at*;by_cases cP:e.kind=2
    ·have eu: ¬e.kind=3:=O
     rw[bS cP,bR eu] at*;simp only[Bool.not_true,Bool.not_false,cond_true,cond_false,Bool.true_or,Bool.true_and,Bool.false_or] at*;exact i _ rfl
    rw[bR cP] at*;simp only[Bool.not_false,cond_true,Bool.false_or] at*;cases K:iY e.index with
    |false=>exact i _ (by rw[K];rfl)
    |true=>
     by_cases eu:e.kind=3
     ·rw[bS eu] at*;exact i _ (by rw[K];rfl)
     rw[bR eu] at*;exact i _ (by rw[K];rfl)
   rw[bR o] at*;exact i _ rfl
  subst m;cases s:ym e with
  |false=>
   refine ad.some ⟨?_,λh=>by cases h⟩
   have:eJ e d=al:=by
    unfold ym at s;unfold eJ;by_cases cP:e.kind=2
    ·have cA: ¬e.kind=1:=O
     have eu: ¬e.kind=3:=O
     rw[bg cP];rw[bS cP,bR cA,bR eu] at s;revert s;cases aj (e.num=0)<;>cases kj e.read<;>simp
    rw[be cP];by_cases eu:e.kind=3
    ·have cA: ¬e.kind=1:=O
     rw[bg eu];rw[bR cP,bR cA,bS eu] at s;revert s;cases aj (e.num=0)<;>cases iY e.index<;>simp
    rw[be eu];rw[bR cP,bR eu] at s;by_cases cA:e.kind=1
    ·rw[bg cA];rw[bS cA] at s;revert s;cases iY e.index<;>cases kj e.read<;>simp
    rw[be cA];rw[bR cA] at s;revert s;cases aj (e.num=0)<;>cases iY e.index<;>cases kj e.read<;>simp
   unfold dF;rw[this];simp
  |true=>
   refine b1 ?_;unfold ym at s;simp only[cB,Bool.or_eq_true,decide_eq_true_eq] at s;obtain⟨zj,I,R⟩:=s;have p: ∀(b:Bool),eJ e d=b->fK e.kind=0-> ∀(z:Bool),z=(b&&aj ((e.a1.length:Int)=0))->z=(dF (L+1) e d&&aj (c+dI (L+1) e<=12))/\(z=ab->c+1=c+dI (L+1) e):=by
    intro b bw F z m;unfold dF;rw[bw,F];by_cases h:e.a1.length=0
    ·have C:e.a1=[]:=nQ h;have G:dI (L+1) e=1:=by simp[dI,C]
     rw[G,bS (O:c+1<=12)];rw[bS (show(e.a1.length:Int)=0 by omega)] at m;rw[m,C];simp
    rw[bR (show¬(e.a1.length:Int)=0 by omega)] at m;rw[m,bR (show¬(0:Int)=(e.a1.length:Int) by omega)];simp
   by_cases cA:e.kind=1
   ·have cP: ¬e.kind=2:=O
    have eu: ¬e.kind=3:=O
    rw[bS cA];have l:eJ e d=aj (0<=e.num/\e.num<=99):=by
     unfold eJ;rw[be cP,be eu,bg cA];rcases I with h|h
     ·exact br h cP
     rcases R with A|A
     ·exact br A eu
     rw[h,A];simp
    refine bW (ad.aQ (λz=>z=(aj (0<=e.num/\e.num<=99)&&aj ((e.a1.length:Int)=0))) (λj i=>ag (d5 n _ _ _) ?_) λz m=>ad.some ?_)
    ·cases y:aj (0<=e.num/\e.num<=99) with
     |true=>exact i _ (by rw[y];rfl)
     |false=>exact i _ (by rw[y];rfl)
    exact p _ l (by unfold fK;rw[bg (Or.inl cA)]) _ m
   rw[bR cA];refine b1 ?_;have o:e.num=0:=by
    rcases zj with h|h
    ·exact br h cA
    exact h
   by_cases cP:e.kind=2
   ·have eu: ¬e.kind=3:=O
    rw[bS cP];have l:eJ e d=fA e.index d:=by
     unfold eJ;rw[bg cP,bS o];rcases R with A|A
     ·exact br A eu
     rw[A];simp
    refine bW (ad.aQ (λz=>z=(fA e.index d&&aj ((e.a1.length:Int)=0))) (λj i=>ag (TH O _ v) ?_) λz m=>ad.some ?_)
    ·unfold fA at i;cases y:de e.index with
     |false=>exact i _ (by rw[y];rfl)
     |true=>
      refine ag (Aw O v) (aV (λh=>i _ ?_) λh=>i _ ?_)
      ·rw[y,bS h];rfl
      rw[y,bR h];rfl
    exact p _ l (by unfold fK;rw[bg (Or.inr (Or.inl cP))]) _ m
   rw[bR cP];refine b1 ?_;have B:iY e.index=ab:=by
    rcases I with h|h
    ·exact br h cP
    exact h
   by_cases eu:e.kind=3
   ·rw[bS eu];have l:eJ e d=fU e.read d:=by
     unfold eJ;rw[be cP,bg eu,bS o,B];simp
    refine bW (ad.aQ (λz=>z=(fU e.read d&&aj ((e.a1.length:Int)=0))) (λj i=>ag (Ld O U d) ?_) λz m=>ad.some ?_)
    ·cases y:fU e.read d with
     |false=>exact i _ (by rw[y];rfl)
     |true=>exact i _ (by rw[y];rfl)
    exact p _ l (by unfold fK;rw[bg (Or.inr (Or.inr eu))]) _ m
   rw[bR eu];refine b1 ?_;have l:eJ e d=ab:=by
    unfold eJ;rw[be cP,be eu,be cA,bS o,B];rcases R with A|A
    ·exact br A eu
    rw[A];rfl
   have W:sq n e.kind=aa (aj (4<=e.kind/\e.kind<=6)):=by unfold sq;rw[d5];rfl
   have H:(fK e.kind=2↔(4<=e.kind/\e.kind<=6))/\(fK e.kind=2\/fK e.kind= -1):=by
    unfold fK;rw[be O];split<;>omega
   refine ad.aQ (λz=>z= !(aj (4<=e.kind/\e.kind<=6)&&aj ((e.a1.length:Int)=2))) (λj i=>ag W ?_) λz m=>?_
   ·cases y:aj (4<=e.kind/\e.kind<=6) with
    |false=>exact i _ (by rw[y];rfl)
    |true=>exact i _ (by rw[y];rfl)
   subst m;by_cases F:(4<=e.kind/\e.kind<=6)/\(e.a1.length:Int)=2
   ·rw[bS F.1,bS F.2];refine b1 ?_;obtain⟨a,b,w⟩: ∃a b,e.a1=[a,b]:=by
     have:e.a1.length=2:=O
     match dr:e.a1,this with
     | [a,b],_=>exact⟨a,b,rfl⟩
    have X:dF (L+1) e d=(dF L a d&&dF L b d):=by
     show(aj (fK e.kind=e.a1.length)&&(eJ e d&&e.a1.all λk=>dF L k d))=_;rw[l,w,bS (show fK e.kind=(([a,b]:List Expr).length:Int) by rw[H.1.2 F.1];rfl)];simp
    have G:dI (L+1) e=1+(dI L a+dI L b):=by simp[dI,w]
    have ala:=rU L a;have alb:=rU L b;rw[X,G];obtain⟨n,rfl⟩: ∃j,n=j+1:=⟨n-1,O⟩
    refine ad.aQ (λz:Int×Bool=>z.2=(dF L a d&&dF L b d&&aj (c+(1+(dI L a+dI L b))<=12))/\(z.2=ab->z.1=c+(1+(dI L a+dI L b)))) (λj i=>?_) λz m=>ad.some m;refine ag (x:=a) (by rw[w];rfl) (hE (KD d L n a (c+1) O O (E a (by rw[w];simp)) O O) λr ⟨D,f⟩=>?_);cases t:r.1 with
    |false=>
     refine i _ ⟨?_,λh=>by cases h⟩;rw[t] at D;show al=_;by_cases Q:dF L a d=ab
     ·rw[Q,gg] at D
      have:=of_decide_eq_false D.symm;rw[bR (show¬c+(1+(dI L a+dI L b))<=12 by omega),kn]
     rw[Bool.eq_false_iff.2 Q];rfl
    |true=>
     have f:=f t;rw[t] at D;have D:=D.symm;rw[qk,decide_eq_true_eq] at D;refine ag (x:=b) (by rw[w];rfl) ?_;rw[f];refine hE (KD d L n b (c+1+dI L a) O O (E b (by rw[w];simp)) O O) λq ⟨mQ,q2⟩=>i _ ⟨?_,λh=>?_⟩
     ·show q.1=_;rw[mQ,D.1,gg];congr 1;exact decide_eq_decide.2 O
     show q.2=_;rw[q2 h];omega
   have iw:dF (L+1) e d=al:=by
    unfold dF;rw[bR (show¬fK e.kind=(e.a1.length:Int) by
     intro h;rcases H.2 with M|M
     ·exact F ⟨H.1.1 M,O⟩
     omega)]
    rfl
   have:(aj (4<=e.kind/\e.kind<=6)&&aj ((e.a1.length:Int)=2))=al:=by
    by_cases g:4<=e.kind/\e.kind<=6
    ·rw[bR (show¬(e.a1.length:Int)=2 from λh=>F ⟨g,h⟩),kn]
    rw[bR g];rfl
   rw[this,iw];exact ad.some ⟨rfl,λh=>by cases h⟩
def eM(s:Stmt)(d:Int):Bool:=aj (0<=d/\d<=4)&&(fU s.write d&&(dF 5 s.value d&&aj (dI 5 s.value<=12)))
def Bj(s:Stmt):Prop:=jY s.write.a7/\uC 5 s.value
theorem Vu(l:6600000<=n)(h:Bj s)(d:Int):EJ n s d=aa (eM s d):=by
 obtain⟨n,rfl⟩: ∃j,n=j+1:=⟨n-1,O⟩
 refine ad.eq ?_;unfold EJ;generalize a:eM s d=T;unfold eM at a;refine ad.aQ (λz:Int×Bool=>z.2=T) (λj b=>ag (d5 _ _ _ _) ?_) λz i=>ad.some i;cases c:aj (0<=d/\d<=4) with
 |false=>exact b (0,al) (by rw[<-a,c];rfl)
 |true=>
  refine bW (ag (Ld O h.1 d) ?_);cases e:fU s.write d with
  |false=>exact b (0,al) (by rw[<-a,c,e];rfl)
  |true=>
   refine bW (hE (KD d 5 n s.value 0 O O h.2 O O) λr ⟨k,m⟩=>b _ ?_);rw[<-a,c,e];show r.1=_;rw[k];simp
theorem KV(m:6600000<=n)(h:Bj s)(d:Int):zE n s d=aa (eM s d):=by
 obtain⟨n,rfl⟩: ∃j,n=j+1:=⟨n-1,O⟩
 refine ad.eq ?_;unfold zE;generalize k:eM s d=T;generalize a:(aj (0<=d/\d<=4)&&(fU s.write d&&dF 5 s.value d))=B;have b:T=(B&&aj (dI 5 s.value<=12)):=by rw[<-k,<-a];unfold eM;simp only[Bool.and_assoc]
 refine ad.aQ (λz=>z= !B) (λj c=>aV (λh=>c _ ?_) λo=>aV (λh=>c _ ?_) λp=>ag (K' O h.1 d) ?_) λz l=>?_
 ·rw[<-a,bR (show¬(0<=d/\d<=4) by omega)];rfl
 ·rw[<-a,bR (show¬(0<=d/\d<=4) by omega)];rfl
 ·rw[bS (O:0<=d/\d<=4)] at a;cases i:fU s.write d with
  |false=>exact bW (c _ (by rw[<-a,i];rfl))
  |true=>exact b1 (ag (Lv d 5 n s.value O O h.2) (c _ (by rw[<-a,i];rfl)))
 subst l;cases e:B with
 |false=>exact ad.some (by rw[b,e];rfl)
 |true=>
  rw[e] at a;simp only[cB] at a;refine b1 (ag (Lw (d:=d) 5 n s.value O O a.2.2) (ad.some ?_));rw[b,e];rfl
def m9(a:List Int):Bool:=aj (1<=a.length/\a.length<=2)&&a.all λd=>decide (1<=d/\d<=6)
def si(a:List cC)(i:Nat)(x:cC):Bool:=match i with
 |0=>ab
 |i+1=>match a[i]? with
  |some y=>Op.bytesLess y.name x.name
  |none=>al
def mv(a:List cC)(i:Nat)(x:cC):Bool:=nX x.name&&(si a i x&&m9 x.b8)
def iV(a:List cC):Bool:=uG (mv a) a&&aj (a.length<=4)
def Fu(a:List cC):Prop:=a.length<=1100000/\ ∀x∈a,x.b8.length<=1100000
theorem LV{x y:cC}(h:r[i]? =aa y):si r (i+1) x=Op.bytesLess y.name x.name:=by simp only[si,h]
theorem acW(a:List Int):(a.any λd=> !decide (1<=d/\d<=6))= !(a.all λd=>decide (1<=d/\d<=6)):=by grind
theorem Wx(W:6600000<=n){w:List cC}(h:Fu w):Ax n w=aa (iV w):=by
 obtain⟨X,H⟩:=h;refine ad.eq ?_;unfold Ax;refine qb (l:=w) (p:=mv w) O O (λa i x k q s=>?_) (λa m=>?_) (λ⟨i,x,k,y⟩=>?_)
 ·have aL:=(d6.1 k).1;have hm:=H x (bX k);rw[bS (show(i:Int)<(w.length:Int) by omega)];have K:oA n x.b8 (λA=>q' n A)=aa (!(x.b8.all λd=>decide (1<=d/\d<=6))):=by
   rw[<-acW];exact t6 (λd _=>by unfold q';rw[d5];rfl) O O
  refine bW (ag (bq k) (ad.aQ (λz=>z= !mv w i x) (λj c=>ag (LG n _) ?_) λz L=>?_))
  ·unfold mv m9 at c;cases B:nX x.name with
   |false=>exact bW (c _ (by rw[B];rfl))
   |true=>
    rw[B] at c;refine b1 ?_;rw[E1];have b:si w i x=ab->ad (bI (aa (aj (1<=x.b8.length/\x.b8.length<=2))) λQ=>bif !Q then j ab else bI (oA n x.b8 λA=>q' n A) λR=>j R) (λr=>r=iV w):=by
     intro y;rw[y] at c;show ad (bif _ then _ else _) _;cases C:aj (1<=x.b8.length/\x.b8.length<=2) with
     |false=>exact bW (c _ (by rw[C];rfl))
     |true=>exact b1 (ag K (c _ (by rw[C];rfl)))
    cases i with
    |zero=>exact aV (λh=>br h (by decide)) (λ_=>b rfl)
    |succ i=>
     have D:=bD (O:i<w.length);have e:wr (((i+1:Nat):Int)-1)=(i:Int):=by rw[bf O];omega
     rw[e];refine aV (λ_=>ag (bq D) ?_) λh=>br (show(0:Int)<((i+1:Nat):Int) by omega) h;have o:=LV (x:=x) D;cases F:Op.bytesLess w[i].name x.name with
     |false=>exact bW (c _ (by rw[o,F];rfl))
     |true=>exact b1 (b (by rw[o,F]))
  subst L;cases G:mv w i x with
  |true=>show ad (a _) _;rw[bf O];exact q G
  |false=>exact ad.some (s G)
 ·rw[bR (show¬(w.length:Int)<(w.length:Int) by omega)];refine ad.some ?_;unfold iV;rw[EH m,gg]
  grind
 unfold iV;rw[Ec k y];rfl
theorem acd(s:List UInt8):(!Op.bytesLess s [68]&& !s==[68])= !(Op.bytesLess s [68]||s==[68]):=by grind
theorem Vx(Y:6600000<=n){a:List cC}(h:Fu a):EX n a=aa (iV a):=by
 obtain⟨h0,u⟩:=h;refine ad.eq ?_;unfold EX;refine qb (l:=a) (p:=mv a) O O (λq i x w H A=>?_) (λq B=>?_) (λ⟨i,x,w,v⟩=>?_)
 ·have aL:=(d6.1 w).1;have hm:=u x (bX w);rw[bS (show(i:Int)<(a.length:Int) by omega)];refine bW (ag (bq w) (ad.aQ (λz=>z= !(nX x.name&&(si a i x&&aj (1<=x.b8.length/\x.b8.length<=2)))) (λj m=>?_) λz K=>?_))
  ·refine dV (λE=>m _ ?_) λE=>?_
   ·rw[Au O];rfl
   obtain⟨b,o⟩:=IL (O:x.name.length=1);rw[acd];have L: ∀(y:cC),Op.bytesLess y.name x.name=Op.bytesLess y.name [b]:=λy=>by rw[o]
   have Q:nX x.name=aj (65<=b.toNat/\b.toNat<=68):=by rw[o];rfl
   have I:Op.bytesLess x.name [65]=aj (b.toNat<65):=by rw[o];exact MJ b
   have M:(Op.bytesLess x.name [68]||x.name==[68])=aj (b.toNat<=68):=by rw[o];exact MI b
   rw[I,M];rw[Q] at m;refine aV (λN=>m _ ?_) λN=>dV (λP=>m _ ?_) λP=>?_
   ·rw[bR (show¬(65<=b.toNat/\b.toNat<=68) by omega)];rfl
   ·rw[bR (show¬(65<=b.toNat/\b.toNat<=68) by omega)];rfl
   rw[bS (O:65<=b.toNat/\b.toNat<=68)] at m;have c:si a i x=ab->ad (bif aj ((x.b8.length:Int)<1) then j ab else j (aj ((2:Int)<(x.b8.length:Int)))) (λr=>r=iV a):=by
    grind
   cases i with
   |zero=>exact aV (λh=>br h (by decide)) (λ_=>c rfl)
   |succ i=>
    have X:=bD (O:i<a.length);have e:wr (((i+1:Nat):Int)-1)=(i:Int):=by rw[bf O];omega
    rw[e];refine aV (λ_=>ag (bq X) ?_) λh=>br (show(0:Int)<((i+1:Nat):Int) by omega) h;have C:=LV (x:=x) X;cases f:Op.bytesLess a[i].name x.name with
    |false=>exact bW (m _ (by rw[C,f];rfl))
    |true=>exact b1 (c (by rw[C,f]))
  subst K;cases o:(nX x.name&&(si a i x&&aj (1<=x.b8.length/\x.b8.length<=2))) with
  |false=>
   refine ad.some (A ?_);unfold mv m9;rw[<-l5,<-l5];rw[<-l5] at o;rw[o];rfl
  |true=>
   have D:mv a i x=x.b8.all (λd=>decide (1<=d/\d<=6)):=by
    unfold mv m9;rw[<-l5,<-l5];rw[<-l5] at o;rw[o];rfl
   refine b1 ?_;refine ad.loop (λy:Int=> ∃k:Nat,y=k/\k<=x.b8.length/\ ∀(t:Nat) d,t<k->x.b8[t]? =aa d->decide (1<=d/\d<=6)=ab) (λy=>x.b8.length-y.toNat) ?_ n _ ⟨0,rfl,O,λt d h=>O⟩ cd;rintro G y ⟨k,rfl,hk,g⟩ S;refine aV (λT=>?_) λU=>?_
   ·have cJ:=bD (O:k<x.b8.length);have V:wr ((k:Int)+1)=((k+1:Nat):Int):=by rw[bf O];omega
    refine ad.aQ (λz=>z= !decide (1<=x.b8[k]/\x.b8[k]<=6)) (λj m=>ag (bq cJ) (aV (λh=>m _ ?_) λh=>m _ ?_)) λz K=>?_
    ·rw[bR O];rfl
    ·by_cases h6:x.b8[k]<=6
     ·rw[bR (show¬(6:Int)<x.b8[k] by omega),bS (O:1<=x.b8[k]/\x.b8[k]<=6)];rfl
     rw[bS (show(6:Int)<x.b8[k] by omega),bR (show¬(1<=x.b8[k]/\x.b8[k]<=6) by omega)];rfl
    subst K;cases F:aj (1<=x.b8[k]/\x.b8[k]<=6) with
    |false=>
     refine ad.some (A ?_);rw[D];exact l4.2 ⟨_,bX cJ,by rw[F];simp⟩
    |true=>
     rw[V];refine S _ ⟨k+1,rfl,O,λt d R s=>?_⟩ O;by_cases W:t=k
     ·subst W;rw[cJ] at s;cases s;exact F
     exact g t d O s
   have e:wr ((i:Int)+1)=(i:Int)+1:=bf O;rw[e];refine H ?_;rw[D];refine gx.2 λd cJ=>?_;obtain⟨t,R⟩:=kT cJ
   have:=(d6.1 R).1;exact g t d O R
 ·rw[bR (show¬(a.length:Int)<(a.length:Int) by omega)];refine ad.some ?_;unfold iV;rw[EH B,gg]
  grind
 unfold iV;rw[Ec w v];rfl
def ht:List Int->Int
 | []=>1
 |d::a=>d*ht a
theorem H'{d:List Int}(h:m9 d=ab):(∃a,d=[a]/\1<=a/\a<=6)\/ ∃a b,d=[a,b]/\(1<=a/\a<=6)/\1<=b/\b<=6:=by
 simp only[m9,cB,decide_eq_true_eq,kp] at h;obtain⟨⟨e,i⟩,c⟩:=h
 match d,e,i,c with
 | [a],_,_,c=>exact .inl ⟨a,rfl,c a bl⟩
 | [a,b],_,_,c=>exact .inr ⟨a,b,rfl,c a bl,c b bl⟩
theorem QT{a b:Int}(c:1<=a/\a<=6)(d:1<=b/\b<=6):1<=a*b/\a*b<=36:=by
 constructor
 ·have:=rN c.1 d.1 O O;omega
 have:=rN c.2 d.2 O O;omega
theorem sv{d:List Int}(h:m9 d=ab):1<=ht d/\ht d<=36:=by
 rcases H' h with ⟨a,rfl,c⟩|⟨a,b,rfl,c,e⟩
 ·simp[ht];omega
 have:=QT c e;simp[ht];omega
theorem H1(l:6600000<=n){x:cC}(h:m9 x.b8=ab):xG n x=aa (ht x.b8):=by
 obtain⟨n,rfl⟩: ∃j,n=j+3:=⟨n-3,O⟩
 unfold xG;rcases H' h with ⟨a,e,d⟩|⟨a,b,e,d,i⟩
 ·rw[e];have c:wr a=a:=bf O;simp[bA,aB,ht,c,show wr 1=1 from bf O]
 rw[e]
 have:=QT d i;have c:wr a=a:=bf O;have k:wr (a*b)=a*b:=bf O;simp[bA,aB,ht,c,k,show wr 1=1 from bf O,show wr 2=2 from bf O]
theorem abk(a:6600000<=n){x:cC}(h:m9 x.b8=ab):Ef n x=aa (ht x.b8):=H1 a h
def hT:List aE->List Int->List Int->Int->Int
 |s::b,d::c,p,a=>if 0<=gk s p/\gk s p<d then hT b c p (a*d+gk s p) else-1
 |_,_,_,a=>a
def eP:List cC->cx->List Int->Int->Int
 | [],_,_,_=> -1
 |x::c,a,p,b=>if x.name=a.array then(if a.a7.length=x.b8.length then(if hT a.a7 x.b8 p 0<0 then-1 else b+hT a.a7 x.b8 p 0) else-1) else eP c a p (b+ht x.b8)
def lh(a:List cC):Prop:= ∀x∈a,m9 x.b8=ab
theorem afC{d:List Int}(e:m9 d=ab){l:List aE}(c:l.length=d.length)(p:List Int):hT l d p 0= -1\/(0<=hT l d p 0/\hT l d p 0<ht d):=by
 rcases H' e with ⟨a,rfl,h⟩|⟨a,b,rfl,h,k⟩
 ·match l,c with
  | [s],_=>
   simp only[hT,ht,Int.zero_mul,Int.zero_add,Int.mul_one];split<;>omega
 match l,c with
 | [s,t],_=>
  simp only[hT,ht,Int.zero_mul,Int.zero_add,Int.mul_one];split
  ·rename_i i;split
   ·rename_i m;refine .inr ⟨?_,?_⟩
    ·have:=o3 i.1 (O:0<=b);omega
    have:=Int.mul_le_mul_of_nonneg_right (O:gk s p<=a-1) (O:0<=b);rw[Int.sub_mul] at this;omega
   exact .inl rfl
  exact .inl rfl
def gW(a:List cC):Int:=(a.map λx=>ht x.b8).sum
theorem Pg: ∀{xs:List cC},lh xs-> ∀(a:cx) (p:List Int) (b:Int),0<=b->eP xs a p b= -1\/(b<=eP xs a p b/\eP xs a p b<b+gW xs)
 | [],_,a,p,b,_=> .inl rfl
 |x::xs,i,a,p,b,m=>by
  have k:=i x bl;have hs:=sv k;have c:lh xs:=λy d=>i y (by simp[d]);have n:0<=gW xs:=by
   have:=nP (λx:cC=>ht x.b8) xs λy d=>(sv (c y d)).1;unfold gW;omega
  have e:gW (x::xs)=ht x.b8+gW xs:=by simp[gW]
  rw[e];simp only[eP];split
  ·split
   ·rename_i l;rcases afC k l p with h|h
    ·rw[bg O];exact .inl rfl
    rw[be O];exact .inr ⟨O,O⟩
   exact .inl rfl
  rcases Pg c a p (b+ht x.b8) O with h|h
  ·exact .inl h
  exact .inr ⟨O,O⟩
theorem me(h:fU a d=ab):1<=a.a7.length/\a.a7.length<=2/\ ∀x∈a.a7,de x=ab:=by
 simp only[fU,cB,decide_eq_true_eq,kp] at h;refine⟨h.2.2.1,h.2.2.2,λx b=>?_⟩
 have:=h.1 x b;simp only[fA,cB] at this
 grind
theorem la{k:Type}{l:List k}{x:k}(h:l[i]? =aa x):l.drop i=x::l.drop (i+1):=by obtain⟨a,b⟩:=d6.1 h;rw[km a,b]
theorem Ow{a v:Int}(b:0<=a/\a<=36)(c:1<=d/\d<=6)(e:0<=v/\v<d):0<=a*d/\a*d<=216/\0<=a*d+v:=by have h:=o3 b.1 (O:0<=d);have i:=rN b.2 c.2 O O;omega
theorem ab8(E:6600000<=n)(I:a.a7.length<=2)(W: ∀x∈a.a7,de x=ab){e:List Int}(X:m9 e=ab)(M:a.a7.length=e.length){p:List Int}(f:il k p)(b:Int)(N:0<=b/\b<=500000000):
  bA (λc ((Q,A):Int×Int)=>bif aj (A<(a.a7.length:Int)) then(bI (aB a.a7 A) λg=>bI (oC n g p) λo=>bI (aB e A) λq=>bI (fz n o 0 (wr (q-1))) λB=>bif !B then(aa (-1)) else(c (wr ((wr (Q*q))+o),wr (A+1)))) else(aa (wr (b+Q)))) n (0,0)
   =aa (if hT a.a7 e p 0<0 then-1 else b+hT a.a7 e p 0):=by
 have C: ∀d∈e,1<=d/\d<=6:=by
  simp only[m9,cB,decide_eq_true_eq,kp] at X
  grind
 refine ad.eq ?_;refine ad.loop (λx:Int×Int=> ∃i:Nat,x.2=i/\i<=a.a7.length/\0<=x.1/\x.1<=36*i/\(i=0->x.1=0)/\(i=1->x.1<=5)/\hT a.a7 e p 0=hT (a.a7.drop i) (e.drop i) p x.1) (λx=>a.a7.length-x.2.toNat) ?_ n _ ⟨0,rfl,O,bl,bl,λ_=>rfl,λh=>O,rfl⟩ cd;rintro D ⟨x,z⟩ ⟨i,R,P,F,G,r,s,l⟩ j;dsimp only at R F G r s l⊢;subst R;refine aV (λt=>?_) λu=>ad.some ?_
 ·have hs:=bD (O:i<a.a7.length);have m:=bD (O:i<e.length);have w:=C _ (bX m);have v:wr (e[i]-1)=e[i]-1:=bf O;rw[la hs,la m] at l;simp only[hT] at l;refine ag (bq hs) (ag (yp O (W _ (bX hs)) f) (ag (bq m) (ag (d5 _ _ _ _) ?_)));rw[v];by_cases H:0<=gk a.a7[i] p/\gk a.a7[i] p<e[i]
  ·rw[bg H] at l;rw[bS (O:0<=gk a.a7[i] p/\gk a.a7[i] p<=e[i]-1)];obtain⟨S,T,U⟩:=Ow (a:=x) O w H;refine b1 ?_;rw[bf (n:=x*e[i]) O,bf (n:=x*e[i]+gk a.a7[i] p) O,bf O];have y:i=0\/i=1:=O
   refine j _ ⟨i+1,Z,O,Z,?_,λh=>O,λh=>?_,l⟩ Z
   ·dsimp only;rcases y with rfl|rfl
    ·rw[r rfl];omega
    have:=s rfl
    have:=rN this w.2 O O;omega
   dsimp only
   grind
  rw[be H] at l;rw[bR (show¬(0<=gk a.a7[i] p/\gk a.a7[i] p<=e[i]-1) by omega)];refine bW (ad.some ?_)
  grind
 have K:i=a.a7.length:=O
 have L:hT (a.a7.drop i) (e.drop i) p x=x:=by
  rw[K,qe];unfold hT;rfl
 rw[L] at l;rw[l,be O,bf O]
theorem acw(P:6600000<=n)(S:1<=a.a7.length)(T:a.a7.length<=2)(t: ∀x∈a.a7,de x=ab){b:List Int}(u:m9 b=ab){p:List Int}(v:il k p)(c:Int)(U:0<=c/\c<=500000000):
  bA (λe ((X,r):Int×Int)=>bif aj (r<(a.a7.length:Int)) then(bif !decide ((a.a7.length:Int)=(b.length:Int)) then(aa (-1)) else(bI (aB a.a7 r) λE=>bI (oW n E p) λq=>aQ (fun(D:Bool)=>bif D then(aa (-1)) else(bI (aB b r) λF=>e (wr ((wr (X*F))+q),wr (r+1)))) λs=>bif aj (q<0) then(s ab) else(bI (aB b r) λG=>s (aj (G<=q))))) else(aa (wr (c+X)))) n (0,0)
   =aa (if a.a7.length=b.length then(if hT a.a7 b p 0<0 then-1 else c+hT a.a7 b p 0) else-1):=by
 by_cases f:a.a7.length=b.length
 ·rw[bg f];rw[bS (show(a.a7.length:Int)=(b.length:Int) by omega)];have H: ∀d∈b,1<=d/\d<=6:=by
   simp only[m9,cB,decide_eq_true_eq,kp] at u
   grind
  refine ad.eq ?_;refine ad.loop (λx:Int×Int=> ∃i:Nat,x.2=i/\i<=a.a7.length/\0<=x.1/\x.1<=36*i/\(i=0->x.1=0)/\(i=1->x.1<=5)/\hT a.a7 b p 0=hT (a.a7.drop i) (b.drop i) p x.1) (λx=>a.a7.length-x.2.toNat) ?_ n _ ⟨0,rfl,O,bl,bl,λ_=>rfl,λh=>O,rfl⟩ cd;rintro K ⟨x,z⟩ ⟨i,C,V,L,Q,w,y,m⟩ I;dsimp only at C L Q w y m⊢;subst C;refine aV (λM=>?_) λN=>ad.some ?_
  ·have hs:=bD (O:i<a.a7.length);have l:=bD (O:i<b.length);have A:=H _ (bX l);rw[la hs,la l] at m;simp only[hT] at m;refine b1 (ag (bq hs) (ag (yr O (t _ (bX hs)) v) (ad.aQ (λz=>z= !decide (0<=gk a.a7[i] p/\gk a.a7[i] p<b[i])) (λj g=>aV (λh=>g _ ?_) λh=>ag (bq l) (g _ ?_)) λz C=>?_)))
   ·rw[bR O];rfl
   ·by_cases o:b[i]<=gk a.a7[i] p
    ·rw[bS o,bR O];rfl
    rw[bR o,bS O];rfl
   subst C;by_cases o:0<=gk a.a7[i] p/\gk a.a7[i] p<b[i]
   ·rw[bg o] at m;rw[bS o];obtain⟨Y,g2,g3⟩:=Ow (a:=x) O A o;refine b1 (ag (bq l) ?_);rw[bf (n:=x*b[i]) O,bf (n:=x*b[i]+gk a.a7[i] p) O,bf O];have B:i=0\/i=1:=O
    refine I _ ⟨i+1,Z,O,Z,?_,λh=>O,λh=>?_,m⟩ Z
    ·dsimp only;rcases B with rfl|rfl
     ·rw[w rfl];omega
     have:=y rfl
     have:=rN this A.2 O O;omega
    dsimp only
    grind
   rw[be o] at m;rw[bR o];refine bW (ad.some ?_)
   grind
  have R:i=a.a7.length:=O
  have W:hT (a.a7.drop i) (b.drop i) p x=x:=by
   rw[R,qe];unfold hT;rfl
  rw[W] at m;rw[m,be O,bf O]
 rw[be f,bR (show¬(a.a7.length:Int)=(b.length:Int) by omega)];obtain⟨n,rfl⟩: ∃j,n=j+1:=⟨n-1,O⟩
 simp only[bA]
 grind
theorem A6(w:6600000<=n)(L:p.bb.length<=4)(A:lh p.bb)(B:fU a d=ab)(C:il k q):th n p a q=aa (eP p.bb a q 0):=by
 obtain⟨a0,aP,a2⟩:=me B;refine ad.eq ?_;unfold th;refine ad.loop (λx:Int×Int=> ∃i:Nat,x.2=i/\i<=p.bb.length/\0<=x.1/\x.1<=36*i/\eP p.bb a q 0=eP (p.bb.drop i) a q x.1) (λx=>p.bb.length-x.2.toNat) ?_ n _ ⟨0,rfl,O,bl,bl,rfl⟩ cd;rintro l ⟨x,z⟩ ⟨i,y,Q,m,o,b⟩ D;dsimp only at y m o b⊢;subst y;refine aV (λF=>?_) λG=>ad.some ?_
 ·have r:=bD (O:i<p.bb.length);have e:=A _ (bX r);have kL:=sv e;rw[la r] at b;simp only[eP] at b;refine ag (bq r) (dV (λh=>?_) λH=>?_)
  ·rw[be h] at b;refine ag (abk w e) ?_;rw[bf (n:=x+ht p.bb[i].b8) O,bf O];exact D _ ⟨i+1,Z,O,Z,Z,b⟩ Z
  rw[bg H] at b;refine dV (λh=>ad.some ?_) λK=>?_
  ·rw[b,be O]
  have c:a.a7.length=p.bb[i].b8.length:=O
  rw[bg c] at b;exact ad.of (ab8 w aP a2 e c C x O) b.symm
 have s:i=p.bb.length:=O
 rw[b,s,qe];rfl
theorem NB(s:6600000<=n)(H:r.length<=4)(y:lh r)(A:fU a d=ab)(B:il k q):xH n r a q=aa (eP r a q 0):=by
 obtain⟨a0,aP,a2⟩:=me A;refine ad.eq ?_;unfold xH;refine ad.loop (λx:Int×Int=> ∃i:Nat,x.2=i/\i<=r.length/\0<=x.1/\x.1<=36*i/\eP r a q 0=eP (r.drop i) a q x.1) (λx=>r.length-x.2.toNat) ?_ n _ ⟨0,rfl,O,bl,bl,rfl⟩ cd;rintro e ⟨x,z⟩ ⟨i,w,K,h,l,b⟩ C;dsimp only at w h l b⊢;subst w;refine aV (λD=>?_) λF=>ad.some ?_
 ·have m:=bD (O:i<r.length);have c:=y _ (bX m);have kL:=sv c;rw[la m] at b;simp only[eP] at b;refine ag (bq m) (dV (λo=>?_) λG=>?_)
  ·rw[be o] at b;refine ag (H1 s c) ?_;rw[bf (n:=x+ht r[i].b8) O,bf O];exact C _ ⟨i+1,Z,O,Z,Z,b⟩ Z
  rw[bg G] at b;exact ad.of (acw s a0 aP a2 c B x O) b.symm
 have p:i=r.length:=O
 rw[b,p,qe];rfl
def eo:Nat->Expr->List cx
 |0,_=>[]
 |L+1,e=>(if e.kind=3 then [e.read] else [])++e.a1.flatMap (eo L)
theorem Gz{d:Int}: ∀{L:Nat} {e:Expr},dF L e d=ab-> ∀a∈eo L e,fU a d=ab
 |0,e,h,a,b=>by cases h
 |L+1,e,h,a,b=>by
  obtain⟨n,c,l⟩:=hl h;simp only[eo,List.mem_append,List.mem_flatMap] at b;rcases b with b|⟨k,m,b⟩
  ·split at b
   ·rename_i i;simp at b;subst b;unfold eJ at c;rw[be O,bg i] at c;simp only[cB] at c;exact c.2.2
   simp at b
  exact Gz (l k m) a b
theorem AU: ∀(L:Nat) (e:Expr),((eo L e).length:Int)<=dI L e
 |0,e=>by simp[eo,dI]
 |L+1,e=>by
  have h: ∀(l:List Expr),((l.flatMap (eo L)).length:Int)<=(l.map (dI L)).sum:=by
   intro l;induction l with
   |nil=>simp
   |cons k l a=>
    have:=AU L k;simp only[List.flatMap_cons,iJ,hg,List.sum_cons];omega
  have:=h e.a1;simp only[eo,dI,iJ];split
  ·rw[rQ];omega
  rw[List.length_nil];omega
theorem FG{d:Int}: ∀(L n:Nat) (e:Expr),6600000+L<=n->L<=5->dF L e d=ab->rb (n+1) e=aa (eo L e)
 |0,n,e,_,_,h=>by cases h
 |L+1,n,e,B,s,h=>by
  obtain⟨C,D,r⟩:=hl h;have w:=oX e.kind;unfold rb;refine ad.eq (aV (λb=>ad.some ?_) λl=>?_)
  ·have:e.a1=[]:=by
    have F:fK e.kind=0:=by unfold fK;rw[bg (Or.inr (Or.inr b))]
    exact nQ O
   simp[eo,b,this]
  obtain⟨n,rfl⟩: ∃j,n=j+1:=⟨n-1,O⟩
  have m: ∀k∈e.a1,((eo L k).length:Int)<=100:=λk c=>by
   have G:=CD (r k c);have H:(2:Int)^L<=40:=by
    match L,s with
    |0,_=>decide
    |1,_=>decide
    |2,_=>decide
    |3,_=>decide
    |4,_=>decide
   have:=AU L k;omega
  refine ad.loop (λx:List cx×Int=> ∃i:Nat,x.2=i/\i<=e.a1.length/\x.1=(e.a1.take i).flatMap (eo L)/\(x.1.length:Int)<=100*i) (λx=>e.a1.length-x.2.toNat) ?_ (n+1) _ ⟨0,rfl,O,bl,bl⟩ cd;rintro o ⟨x,k⟩ ⟨i,c,K,p,q⟩ y;dsimp only at c p q⊢;subst c;refine aV (λz=>?_) λA=>ad.some ?_
  ·have a:=bD (O:i<e.a1.length);have hm:=bX a;have bw:=m _ hm;refine ag (bq a) (ag (FG (d:=d) L n _ O O (r _ hm)) (ag (dM O) ?_));rw[bf O];refine y _ ⟨i+1,Z,O,?_,by dsimp only;rw[dQ];omega⟩ Z;dsimp only;rw[eN,a,qi,p];simp
  have:i=e.a1.length:=O
  rw[p,this,eb];simp[eo,l]
theorem AB(n:Nat){a:aE}(h:a.aK.length<=1100000):qW n a=aa a:=by
 unfold qW;refine ad.eq (aV (λb=>ad.some ?_) λb=>ag (mB _ h) (ad.some rfl));obtain⟨cs,c⟩:=a
 have:cs=[]:=nQ (by simpa using b)
 grind
theorem z1(p:5500000<=n)(h:jY a.a7):qX n a=aa a:=by
 obtain⟨q,e⟩:=h;refine ad.eq ?_;unfold qX;refine ad.loop (λx:List aE×Int=> ∃i:Nat,x.2=i/\i<=a.a7.length/\x.1=a.a7.take i) (λx=>a.a7.length-x.2.toNat) ?_ n _ ⟨0,rfl,O,bl⟩ cd;rintro c ⟨x,k⟩ ⟨i,d,r,b⟩ l;dsimp only at d b⊢;subst d;refine aV (λm=>?_) λo=>ad.some ?_
 ·have hs:=bD (O:i<a.a7.length);have s:x.length=i:=by rw[b,c8];omega
  refine ag (bq hs) (ag (AB n (e _ (bX hs))) (ag (dM cd) ?_));rw[bf O];refine l _ ⟨i+1,Z,O,?_⟩ Z;dsimp only;rw[eN,hs,b];rfl
 have:i=a.a7.length:=O
 rw[b,this,eb]
theorem Pn{l:List aE}(d:l.length<=2)(b: ∀a∈l,de a=ab):jY l:=⟨O,λa c=>by have:=(fS (b a c)).1;unfold iu;omega⟩
theorem Mg{d:Int}: ∀(L n:Nat) (e:Expr) (out:List cx),6600000+L<=n->L<=5->dF L e d=ab->(out.length:Int)<=1100000+200*(6-(L:Int))->tQ (n+1) out e=aa (out++eo L e)
 |0,n,e,out,_,_,h,_=>by cases h
 |L+1,n,e,out,Q,A,h,R=>by
  obtain⟨W,X,s⟩:=hl h;have B:=oX e.kind;unfold tQ;refine ad.eq (ad.aQ (λz=>z=out++(if e.kind=3 then [e.read] else [])) (λj w=>aV (λa=>?_) λm=>w _ (by rw[be m];simp)) λz y=>?_)
  ·have C:=Gz h e.read (by simp[eo,a]);obtain⟨_,D,F⟩:=me C;exact ag (z1 O (Pn D F)) (ag (dM cd) (w _ (by rw[bg a])))
  subst y;obtain⟨n,rfl⟩: ∃j,n=j+1:=⟨n-1,O⟩
  by_cases a:e.kind=3
  ·have b:e.a1=[]:=by
    have y:fK e.kind=0:=by unfold fK;rw[bg (Or.inr (Or.inr a))]
    exact nQ O
   rw[b];refine ad.some ?_;simp[eo,a,b]
  have o: ∀k∈e.a1,((eo L k).length:Int)<=100:=λk l=>by
   have f:=CD (s k l);have g:(2:Int)^L<=40:=by
    match L,A with
    |0,_=>decide
    |1,_=>decide
    |2,_=>decide
    |3,_=>decide
    |4,_=>decide
   have:=AU L k;omega
  rw[be a,jr];refine ad.loop (λx:List cx×Int=> ∃i:Nat,x.2=i/\i<=e.a1.length/\x.1=out++(e.a1.take i).flatMap (eo L)/\(x.1.length:Int)<=out.length+100*i) (λx=>e.a1.length-x.2.toNat) ?_ (n+1) _ ⟨0,rfl,O,bl,bl⟩ cd;rintro p ⟨x,k⟩ ⟨i,l,t,q,r⟩ G;dsimp only at l q r⊢;subst l;refine aV (λH=>?_) λK=>ad.some ?_
  ·have c:=bD (O:i<e.a1.length);have hm:=bX c;have bw:=o _ hm;refine ag (bq c) (ag (Mg (d:=d) L n _ x O O (s _ hm) O) ?_);rw[bf O];refine G _ ⟨i+1,Z,O,?_,by dsimp only;rw[dQ];omega⟩ Z;dsimp only;rw[eN,c,qi,q];simp
  have:i=e.a1.length:=O
  rw[q,this,eb];simp[eo,a]
theorem P3{o:List Loop}(b:Fit o): ∀(cb:List Loop) (k:Nat) (p q:List Int),o.drop k=cb->k<=o.length->il k p->q∈fF cb p->il o.length q
 | [],k,p,q,c,e,d,a=>by
  have:=B2 c e;simp only[fF,List.mem_singleton] at a;subst a;subst this;exact d
 |l::cb,k,p,q,c,e,d,a=>by obtain⟨h,i,w⟩:=A9 c;obtain⟨m,n⟩:=b.2 k l h;have r:=b.1;simp only[fF,List.mem_flatMap] at a;obtain⟨v,s,a⟩:=a;exact P3 b cb (k+1) _ q i O (Cb m n d O (aej.1 s)) a
theorem sL{o:List Loop}{z:List (List Int)}(h:jR o=aa z):Fit o/\z.length<=120/\(∀q∈z,il o.length q)/\z=fF o []/\fO o []<=1200:=by
 unfold jR at h;split at h
 ·rename_i a;cases h;have b:=Ct a.1;exact⟨b,a.2.2,λq c=>P3 b o 0 [] q rfl O zp c,rfl,a.2.1⟩
 cases h
def gS(b:List cC)(s:Stmt)(q:List Int):Bool:=aj (0<=eP b s.write q 0)&&(eo 5 s.value).all λa=>decide (0<=eP b a q 0)
theorem kd(h:eM s d=ab):fU s.write d=ab/\dF 5 s.value d=ab/\(∀a∈eo 5 s.value,fU a d=ab)/\(eo 5 s.value).length<=12:=by
 simp only[eM,cB,decide_eq_true_eq] at h;obtain⟨_,c,b,e⟩:=h
 have:=AU 5 s.value;exact⟨c,b,Gz b,O⟩
theorem XT(C:7700000<=n)(b:p.bb.length<=4)(c:lh p.bb)(o:eM s d=ab)(e:il k q):DH n p s q=aa (gS p.bb s q):=by
 obtain⟨r,w,x,D⟩:=kd o;obtain⟨n,rfl⟩: ∃j,n=j+1:=⟨n-1,O⟩
 refine ad.eq ?_;unfold DH;generalize i:gS p.bb s q=T;unfold gS at i;refine ad.aQ (λz=>z=T) (λj m=>ag (A6 O b c r e) (aV (λh=>?_) λh=>m _ ?_)) λz y=>ad.some y
 ·have bU:=U9 (n:=n+1) (f:=λA=>y0 (n+1) A p q) (p:=λa=>decide (eP p.bb a q 0<0)) (l:=eo 5 s.value)
   (λa B=>by unfold y0;rw[A6 O b c (x a B) e];rfl) O O
  refine ag (FG (d:=d) 5 n s.value O O w) (ag bU (m _ ?_))
  grind
 rw[<-i,bR h];rfl
theorem Lu(v:7700000<=n)(C:r.length<=4)(D:lh r)(H:eM s d=ab)(F:il k q):
  wZ n r s q=aa (if gS r s q=ab then((eo 5 s.value).map λa=>eP r a q 0,eP r s.write q 0,ab) else([],0,al)):=by
 obtain⟨K,L,Q,E⟩:=kd H;obtain⟨n,rfl⟩: ∃j,n=j+1:=⟨n-1,O⟩
 refine ad.eq ?_;unfold wZ;refine ag (Mg (d:=d) 5 n s.value [] O O L bl) ?_;rw[tW];generalize W:eo 5 s.value=R at*;have c:gS r s q=(aj (0<=eP r s.write q 0)&&R.all λa=>decide (0<=eP r a q 0)):=by unfold gS;rw[W]
 refine ad.loop (λx:List Int×Int=> ∃i:Nat,x.2=i/\i<=R.length/\x.1=(R.take i).map (λa=>eP r a q 0)/\ ∀(t:Nat) a,t<i->R[t]? =aa a->0<=eP r a q 0) (λx=>R.length-x.2.toNat) ?_ (n+1) _ ⟨0,rfl,O,bl,λt a h=>O⟩ Z;rintro p ⟨x,z⟩ ⟨i,G,I,o,w⟩ X;dsimp only at G o w⊢;subst G;refine aV (λf=>?_) λg=>?_
 ·have bV:=bD (O:i<R.length);have hm:=bX bV;refine ag (bq bV) (ag (NB O C D (Q _ hm) F) (aV (λe=>ad.some ?_) λl=>?_))
  ·rw[be];rw[c];intro h;rw[qk] at h
   have:=gx.1 h.2 _ hm;rw[decide_eq_true_eq] at this;omega
  have u:x.length<=12:=by rw[o,dH,c8];omega
  refine ag (dM cd) ?_;rw[bf O];refine X _ ⟨i+1,Z,O,?_,λt a y b=>?_⟩ Z
  ·dsimp only;rw[eN,bV,ib,o];rfl
  by_cases A:t=i
  ·subst A;rw[bV] at b;cases b;omega
  exact w t a O b
 have B:i=R.length:=O
 have m:R.all (λa=>decide (0<=eP r a q 0))=ab:=gx.2 (λa hm=>by
  obtain⟨t,y⟩:=kT hm
  have:=(d6.1 y).1;exact bS (w t a O y))
 rw[c,m,Bool.and_true];refine ag (NB O C D K F) (aV (λe=>ad.some ?_) λl=>ad.some ?_)
 ·rw[be (by rw[decide_eq_true_eq];omega)]
 rw[bg (by rw[decide_eq_true_eq];omega),o,B,eb]
def kh(q:List Int):Bool:=aj (q.length<=4)&&q.all λx=>decide (-9999<=x/\x<=9999)
theorem WW(b:5500000<=n)(h:q.length<=1100000):A4 n q=aa (kh q):=by
 unfold A4 kh;have bU:=t6 (n:=n) (f:=λa=>zF n a) (p:=λx=> !decide (-9999<=x/\x<=9999)) (l:=q) (λx _=>by unfold zF;rw[d5];rfl) O O;simp only[aQ,bI]
 grind
theorem Xc(r:5500000<=n)(h:q.length<=1100000):AQ n q=aa (kh q):=by
 refine ad.eq ?_;unfold AQ;refine qb (l:=q) (p:=λ_ x=>decide (-9999<=x/\x<=9999)) O O (λa i x d e k=>?_) (λa b=>?_) (λ⟨i,x,d,m⟩=>?_)
 ·have aL:=(d6.1 d).1;rw[bS (show(i:Int)<(q.length:Int) by omega)];refine bW (ag (bq d) (ag (zD n x 9999 O) ?_));cases m:aj (-9999<=x/\x<=9999) with
  |true=>show ad (a _) _;rw[bf O];exact e m
  |false=>exact ad.some (k m)
 ·rw[bR (show¬(q.length:Int)<(q.length:Int) by omega)];refine ad.some ?_;unfold kh;rw[gx.2 (λc o=>by obtain⟨i,aL⟩:=kT o;exact b i c aL),Bool.and_true]
  grind
 unfold kh
 grind
theorem Ot{k:Type}(p q:k->Bool): ∀l:List k,(l.all p&&l.all q)=l.all (λx=>p x&&q x)
 | []=>rfl
 |x::l=>by simp only[List.all_cons,<-Ot p q l];cases p x<;>cases q x<;>cases l.all p<;>cases l.all q<;>rfl
def ot(a:Part):Bool:=aj (1<=a.body.length/\a.body.length<=4)&&a.body.all λs=>eM s (a.nest.length:Int)
def jl(a:Part):List (List Int):=(jR a.nest).getD []
def eL(b:List cC)(a:Part):Bool:=(jR a.nest).isSome&&(ot a&&a.body.all λs=>(jl a).all λq=>gS b s q&&kh q)
def Ii(x:Part):Prop:=qC x.nest/\x.body.length<=1100000/\ ∀s∈x.body,Bj s
def jw(p:Prog):Prop:=Fu p.bb/\p.parts.length<=1100000/\ ∀x∈p.parts,Ii x
theorem gr(h:eL r x=ab):jR x.nest=aa (jl x)/\(1<=x.body.length/\x.body.length<=4)/\(∀s∈x.body,eM s (x.nest.length:Int)=ab)/\ ∀s∈x.body,∀q∈jl x,gS r s q=ab/\kh q=ab:=by
 simp only[eL,ot,cB,decide_eq_true_eq,kp] at h;refine⟨?_,h.2.1.1,h.2.1.2,h.2.2⟩;unfold jl;cases a:jR x.nest with
 |none=>rw[a] at h;simp at h
 |some b=>rfl
theorem Ih{list:List cC}(h:iV list=ab):list.length<=4/\lh list:=by
 simp only[iV,cB,decide_eq_true_eq] at h;refine⟨h.2,λx a=>?_⟩;obtain⟨i,b⟩:=kT a
 have:=FE h.1 b;simp only[mv,cB] at this
 grind
theorem X3(ca:7700000<=n){a:List cC}(N:a.length<=4)(P:lh a)(S:Ii x):
  Bx n a x=aa (if eL a x=ab then(((jl x).length:Int)*(x.body.length:Int),ab) else(0,al)):=by
 obtain⟨U,h2,V⟩:=S;refine ad.eq ?_;unfold Bx;generalize v:(if eL a x=ab then(((jl x).length:Int)*(x.body.length:Int),ab) else((0:Int),al))=T;refine ag (U4 O U) ?_;have c:eL a x=al->((0:Int),al)=T:=λh=>by rw[<-v,h];rfl
 refine ad.aQ (λz=>z= !((jR x.nest).isSome&&aj (1<=x.body.length/\x.body.length<=4))) (λj l=>?_) λz Q=>?_
 ·cases m:jR x.nest with
  |none=>exact bW (l _ (by rw[m];rfl))
  |some b=>
   refine b1 (aV (λh=>l _ ?_) λh=>l _ ?_)
   ·rw[m,bR O];rfl
   rw[m];by_cases h4:x.body.length<=4
   ·rw[bR (show¬(4:Int)<(x.body.length:Int) by omega),bS O];rfl
   rw[bS (show(4:Int)<(x.body.length:Int) by omega),bR O];rfl
 subst Q;cases m:jR x.nest with
 |none=>exact ad.some (c (by unfold eL;rw[m];rfl))
 |some b=>
  obtain⟨iw,Y,R,ahJ,ahK⟩:=sL m;have A:jl x=b:=by unfold jl;rw[m];rfl
  by_cases K:1<=x.body.length/\x.body.length<=4
  ·rw[bS K];refine b1 ?_;have o:eL a x=x.body.all (λs=>eM s (x.nest.length:Int)&&b.all λq=>gS a s q&&kh q):=by
    unfold eL ot;rw[m,A,bS K,Option.isSome_some,gg,gg];exact Ot _ _ _
   refine ad.loop (λy:Int=> ∃i:Nat,y=i/\i<=x.body.length/\ ∀(t:Nat) s,t<i->x.body[t]? =aa s->(eM s (x.nest.length:Int)&&b.all λq=>gS a s q&&kh q)=ab) (λy=>x.body.length-y.toNat) ?_ n _ ⟨0,rfl,O,λt s h=>O⟩ cd;rintro W y ⟨i,rfl,aL,E⟩ b6;refine aV (λhlt=>?_) λkJ=>ad.some ?_
   ·have bV:=bD (O:i<x.body.length);have hm:=bX bV;refine ag (bq bV) (ag (KV O (V _ hm) _) ?_);cases e:eM x.body[i] (x.nest.length:Int) with
    |false=>
     refine bW (ad.some (c ?_));rw[o];exact l4.2 ⟨_,hm,by rw[e];simp⟩
    |true=>
     refine b1 ?_;show ad (bA (λd (kX:Int)=>bif aj (kX<(b.length:Int)) then _ else _) n 0) _;refine ad.loop (λy:Int=> ∃k:Nat,y=k/\k<=b.length/\ ∀(t:Nat) q,t<k->b[t]? =aa q->(gS a x.body[i] q&&kh q)=ab) (λy=>b.length-y.toNat) ?_ n _ ⟨0,rfl,O,λt s h=>O⟩ cd;rintro d y ⟨k,rfl,hk,B⟩ X;refine aV (λI=>?_) λM=>?_
     ·have p:=bD (O:k<b.length);have C:=bX p;have D:=R _ C;have f:b[k].length<=1100000:=by have:=D.1;have:=D.2.1;omega
      refine ag (bq p) (ag (Lu O N P e D) (ad.aQ (λz=>z= !(gS a x.body[i] b[k]&&kh b[k])) (λj l=>?_) λz Q=>?_))
      ·cases F:gS a x.body[i] b[k] with
       |false=>
        rw[F] at l;exact bW (l _ rfl)
       |true=>
        rw[F] at l;exact b1 (ag (Xc O f) (l _ rfl))
      subst Q;cases F:(gS a x.body[i] b[k]&&kh b[k]) with
      |false=>
       refine ad.some (c ?_);rw[o];refine l4.2 ⟨_,hm,?_⟩;rw[e,gg];rw[l4.2 ⟨_,C,by rw[F];simp⟩];simp
      |true=>
       show ad (d _) _;rw[bf O];refine X _ ⟨k+1,O,O,λt q L r=>?_⟩ O;by_cases g:t=k
       ·subst g;rw[p] at r;cases r;exact F
       exact B t q O r
     rw[bf O];refine b6 _ ⟨i+1,O,O,λt s L w=>?_⟩ O;by_cases u:t=i
     ·subst u;rw[bV] at w;cases w;rw[e,gg];refine gx.2 λq D=>?_;obtain⟨l2,G⟩:=kT D
      have:=(d6.1 G).1;exact B l2 q O G
     exact E t s O w
   have H:eL a x=ab:=by
    rw[o];refine gx.2 λs hs=>?_;obtain⟨t,L⟩:=kT hs
    have:=(d6.1 L).1;exact E t s O L
   rw[<-v,H,bg rfl,A];show(wr ((b.length:Int)*(x.body.length:Int)),ab)=_;have k9:(0:Int)<=(b.length:Int)*(x.body.length:Int):=o3 O O;have vx:(b.length:Int)*(x.body.length:Int)<=120*4:=rN O O O O;rw[bf O]
  rw[bR K];refine ad.some (c ?_);unfold eL ot;rw[bR K];simp
def fR(x:Part):Int:=((jl x).length:Int)*(x.body.length:Int)
def oO(i:Nat)(x:Part):List cO:=(jl x).flatMap λq=>(List.range x.body.length).map fun(k:Nat)=>(⟨(i:Int),(k:Int),q⟩:cO)
def bL(a:List Part):List cO:=a.zipIdx.flatMap λy=>oO y.2 y.1
def jJ(p:Prog):Bool:=iV p.bb&&(aj (p.parts.length<=4)&&p.parts.all (eL p.bb))
def b9(p:Prog):Bool:=jJ p&&aj ((p.parts.map fR).sum<=120)
theorem aiq(l:List Part)(x:Part):bL (l++[x])=bL l++oO l.length x:=by
 unfold bL
 grind
theorem JY{l:List Part}(h:l[i]? =aa x):bL (l.take (i+1))=bL (l.take i)++oO i x:=by have aL:=(d6.1 h).1;rw[eN,h];show bL (l.take i++[x])=_;rw[aiq,c8,zT (Nat.le_of_lt aL)]
theorem B1{k R:Type}(f:k->List R)(m:Nat)(h: ∀x,(f x).length=m): ∀l:List k,(l.flatMap f).length=l.length*m
 | []=>bl
 |x::l=>by rw[List.flatMap_cons,dQ,h,B1 f m h l,List.length_cons,dN];omega
theorem JX(i:Nat)(x:Part):((oO i x).length:Int)=fR x:=by
 unfold oO fR;rw[B1 _ x.body.length λq=>bl]
 grind
theorem NO{l:List Part}(h:l[i]? =aa x):((l.take (i+1)).map fR).sum=((l.take i).map fR).sum+fR x:=by rw[eN,h];simp
theorem Sb: ∀(l:List Part) (i:Nat),i<=l.length->((bL (l.take i)).length:Int)=((l.take i).map fR).sum
 |l,0,_=>by simp[bL]
 |l,i+1,h=>by
  have bV:=bD (O:i<l.length);rw[JY bV,dQ,NO bV]
  have:=Sb l i O
  have:=JX i l[i];omega
theorem Dt(l:List Part):((bL l).length:Int)=(l.map fR).sum:=by
 have:=Sb l l.length (df _)
 grind
theorem Am(h:eL r x=ab):0<=fR x/\fR x<=480:=by
 obtain⟨a,b,_⟩:=gr h;obtain⟨_,c,_⟩:=sL a;unfold fR;refine⟨o3 O O,?_⟩
 have:=rN (show((jl x).length:Int)<=120 by omega) (show(x.body.length:Int)<=4 by omega) O O;omega
theorem iO(g:7700000<=n)(F:jw p):lF n p=aa (b9 p):=by
 obtain⟨G,u,H⟩:=F;refine ad.eq ?_;unfold lF;generalize o:b9 p=T;unfold b9 jJ at o;refine ad.aQ (λz=>z= !(iV p.bb&&aj (p.parts.length<=4))) (λj B=>ag (Vx O G) ?_) λz l=>?_
 ·cases d:iV p.bb with
  |false=>exact bW (B _ (by rw[d];rfl))
  |true=>
   refine b1 (B _ ?_);rw[d];by_cases C:p.parts.length<=4
   ·rw[bR (show¬(4:Int)<(p.parts.length:Int) by omega),bS C];rfl
   rw[bS (show(4:Int)<(p.parts.length:Int) by omega),bR C];rfl
 subst l;cases m:(iV p.bb&&aj (p.parts.length<=4)) with
 |false=>
  refine ad.some ?_;rw[<-o,<-l5,m];rfl
 |true=>
  have e:T=(p.parts.all (eL p.bb)&&aj ((p.parts.map fR).sum<=120)):=by rw[<-o,<-l5,m];rfl
  rw[qk,decide_eq_true_eq] at m;obtain⟨K,L⟩:=Ih m.1;refine b1 ?_;refine ad.loop (λx:Int×Int=> ∃i:Nat,x.2=i/\i<=p.parts.length/\x.1=((p.parts.take i).map fR).sum/\0<=x.1/\x.1<=480*i/\ ∀(t:Nat) y,t<i->p.parts[t]? =aa y->eL p.bb y=ab) (λx=>p.parts.length-x.2.toNat) ?_ n _ ⟨0,rfl,O,bl,bl,bl,λt y h=>O⟩ Z;rintro a ⟨x,z⟩ ⟨i,l,v,D,q,r,d⟩ Q;dsimp only at l D q r d⊢;subst l;refine aV (λR=>?_) λW=>ad.some ?_
  ·have bV:=bD (O:i<p.parts.length);have hm:=bX bV;refine ag (bq bV) (ag (X3 O K L (H _ hm)) ?_);cases b:eL p.bb p.parts[i] with
   |false=>
    rw[be bl];refine ad.some ?_;rw[e,l4.2 ⟨_,hm,by rw[b];simp⟩];rfl
   |true=>
    rw[bg rfl];have X:=Am b;show ad (a (wr (x+fR p.parts[i]),wr ((i:Int)+1))) _;rw[bf (n:=x+fR p.parts[i]) O,bf O];refine Q _ ⟨i+1,Z,O,by dsimp only;rw[NO bV];omega,Z,Z,λt y s c=>?_⟩ Z;by_cases w:t=i
    ·subst w;rw[bV] at c;cases c;exact b
    exact d t y O c
  have A:i=p.parts.length:=O
  have k:p.parts.all (eL p.bb)=ab:=gx.2 (λy f=>by
   obtain⟨t,s⟩:=kT f
   have:=(d6.1 s).1;exact d t y O s)
  rw[e,k,gg,D,A,eb]
theorem KX{R:Type}(f:Nat->R)(k:Nat):(List.range (k+1)).map f=(List.range k).map f++[f k]:=by rw[qf,ib];rfl
theorem KY(ca:7700000<=n)(hp:jw p):vj n p=aa (if jJ p=ab then(bL p.parts,aj ((bL p.parts).length<=120)) else([],al)):=by
 obtain⟨h1,h2,h3⟩:=hp;refine ad.eq ?_;unfold vj;generalize mD:(if jJ p=ab then(bL p.parts,aj ((bL p.parts).length<=120)) else([],al))=T;have a:jJ p=al->(([]:List cO),al)=T:=λh=>by rw[<-mD,h];rfl
 refine ad.aQ (λz=>z= !(iV p.bb&&aj (p.parts.length<=4))) (λj E=>ag (Wx O h1) ?_) λz c=>?_
 ·cases I:iV p.bb with
  |false=>exact bW (E _ (by rw[I];rfl))
  |true=>
   refine b1 (E _ ?_);rw[I];by_cases h4:p.parts.length<=4
   ·rw[bR (show¬(4:Int)<(p.parts.length:Int) by omega),bS h4];rfl
   rw[bS (show(4:Int)<(p.parts.length:Int) by omega),bR h4];rfl
 subst c;cases bw:(iV p.bb&&aj (p.parts.length<=4)) with
 |false=>exact ad.some (a (by unfold jJ;rw[<-l5,bw];rfl))
 |true=>
  have d:jJ p=p.parts.all (eL p.bb):=by unfold jJ;rw[<-l5,bw];rfl
  rw[qk,decide_eq_true_eq] at bw;obtain⟨cS,cJ⟩:=Ih bw.1;refine b1 ?_;refine ad.loop (λx:List cO×Int=> ∃i:Nat,x.2=i/\i<=p.parts.length/\x.1=bL (p.parts.take i)/\x.1.length<=480*i/\ ∀(t:Nat) y,t<i->p.parts[t]? =aa y->eL p.bb y=ab) (λx=>p.parts.length-x.2.toNat) ?_ n _ ⟨0,rfl,O,by simp[bL],bl,λt y h=>O⟩ Z;rintro again ⟨x,z⟩ ⟨i,c,aL,hx,ah7,I⟩ b6;dsimp only at c hx ah7 I⊢;subst c;refine aV (λhlt=>?_) λkJ=>ad.some ?_
  ·have bV:=bD (O:i<p.parts.length);have hm:=bX bV;obtain⟨s1,s2,akZ⟩:=h3 _ hm;generalize yI:p.parts[i]=P at*;have r:eL p.bb P=al->jJ p=al:=λh=>by rw[d];exact l4.2 ⟨_,hm,by rw[h];simp⟩
   refine ag (bq bV) (ag (U7 O s1) (ad.aQ (λz=>z= !((jR P.nest).isSome&&ot P)) (λj E=>?_) λz c=>?_))
   ·cases A:jR P.nest with
    |none=>exact bW (E _ (by rw[A];rfl))
    |some b=>
     refine b1 ?_;have hw:fz n (P.body.length:Int) 1 4=aa (aj (1<=P.body.length/\P.body.length<=4)):=by
      rw[d5];congr 1;exact decide_eq_decide.2 O
     refine ag hw ?_;have bU:=WA (n:=n) (f:=λtE=>yE n tE P) (p:=λs=> !eM s (P.nest.length:Int)) (l:=P.body) (λs M=>by unfold yE;rw[Vu O (akZ s M)];rfl) O O;have e:(P.body.any λs=> !eM s (P.nest.length:Int))= !(P.body.all λs=>eM s (P.nest.length:Int)):=by rw[List.all_eq_not_any_not];simp
     cases N:aj (1<=P.body.length/\P.body.length<=4) with
     |false=>exact bW (E _ (by unfold ot;rw[A,N];rfl))
     |true=>exact b1 (ag bU (E _ (by unfold ot;rw[A,N,e];rfl)))
   subst c;cases A:jR P.nest with
   |none=>exact ad.some (a (r (by unfold eL;rw[A];rfl)))
   |some b=>
    obtain⟨iw,aj',ahI,ahJ,ahK⟩:=sL A;have S:jl P=b:=by unfold jl;rw[A];rfl
    cases F:ot P with
    |false=>exact ad.some (a (r (by unfold eL;rw[F];simp)))
    |true=>
     have B:=F;simp only[ot,cB,decide_eq_true_eq,kp] at B;obtain⟨⟨k9,vx⟩,yM⟩:=B;have G:eL p.bb P=P.body.all (λs=>b.all λq=>gS p.bb s q&&kh q):=by
      unfold eL;rw[A,F,S];rfl
     let row:List Int->List cO:=λq=>(List.range P.body.length).map fun(k:Nat)=>(⟨(i:Int),(k:Int),q⟩:cO)
     have hrl: ∀q,(row q).length=P.body.length:=λq=>by simp[row]
     have o:oO i P=b.flatMap row:=by unfold oO;rw[S]
     refine b1 ?_;rw[show(sJ (aa b)).1=b from rfl];refine ad.loop (λy:List cO×Int=> ∃k:Nat,y.2=k/\k<=b.length/\y.1=x++(b.take k).flatMap row/\ ∀(t:Nat) q,t<k->b[t]? =aa q->kh q=ab/\ ∀s∈P.body,gS p.bb s q=ab) (λy=>b.length-y.2.toNat) ?_ n _ ⟨0,rfl,O,bl,λt q h=>O⟩ Z;rintro U ⟨y,z⟩ ⟨k,c,hk,H,K⟩ V;dsimp only at c H K⊢;subst c;refine aV (λhlt2=>?_) λajZ=>?_
     ·have w:=bD (O:k<b.length);have L:=bX w;generalize Jq:b[k]=Q at*;have Y:=ahI _ L;have ahM:Q.length<=4:=by have:=Y.1;have:=Y.2.1;omega
      refine ag (bq w) (ag (WW O O) ?_);have aic:y.length<=480*4+480:=by
       rw[H,dQ,B1 row _ hrl,c8]
       have:min k b.length*P.body.length<=120*4:=nW O vx;omega
      cases RU:kh Q with
      |false=>
       refine bW (ad.some (a (r ?_)));rw[G];obtain⟨Kk,ahU⟩: ∃Kk,Kk∈P.body:=List.exists_mem_of_length_pos O;refine l4.2 ⟨Kk,ahU,?_⟩;rw[l4.2 ⟨Q,L,by rw[RU];simp⟩];simp
      |true=>
       refine b1 ?_;refine ad.loop (λu:List cO×Int=> ∃m:Nat,u.2=m/\m<=P.body.length/\u.1=y++(List.range m).map (fun(k:Nat)=>(⟨(i:Int),(k:Int),Q⟩:cO))/\ ∀(t:Nat) s,t<m->P.body[t]? =aa s->gS p.bb s Q=ab) (λu=>P.body.length-u.2.toNat) ?_ n _ ⟨0,rfl,O,bl,λt s h=>O⟩ Z;rintro ajI ⟨u,z⟩ ⟨m,c,pG,hu,R⟩ ahO;dsimp only at c hu R⊢;subst c;refine aV (λaj5=>?_) λaj0=>?_
       ·have W:=bD (O:m<P.body.length);have C:=bX W;refine ag (bq W) (ag (XT O cS cJ (yM _ C) Y) ?_);cases Ry:gS p.bb P.body[m] Q with
        |false=>
         refine bW (ad.some (a (r ?_)));rw[G];refine l4.2 ⟨_,C,?_⟩;rw[l4.2 ⟨Q,L,by rw[Ry];simp⟩];simp
        |true=>
         have hcl:jG Q=aa Q:=by unfold jG;rw[bg O]
         have q9:u.length<=480*4+480+4:=by rw[hu];simp;omega
         refine b1 (ag hcl (ag (dM cd) ?_));rw[bf O];refine ahO _ ⟨m+1,Z,O,?_,λt s D X=>?_⟩ Z
         ·dsimp only;rw[hu,KX,hf]
         by_cases ah0:t=m
         ·subst ah0;rw[W] at X;cases X;exact Ry
         exact R t s O X
       have ahy:m=P.body.length:=O
       rw[bf O];refine V _ ⟨k+1,Z,O,?_,λt q D g=>?_⟩ Z
       ·dsimp only;rw[eN,w,qi,<-hf,<-H,hu,ahy];simp[row]
       by_cases Dp:t=k
       ·subst Dp;rw[w] at g;cases g;refine⟨RU,λs M=>?_⟩;obtain⟨l2,R2⟩:=kT M
        have:=(d6.1 R2).1;exact R l2 s O R2
       exact K t q O g
     have RG:k=b.length:=O
     have RS:eL p.bb P=ab:=by
      rw[G];refine gx.2 λs M=>gx.2 λq Y=>?_;obtain⟨t,D⟩:=kT Y
      have:=(d6.1 D).1;obtain⟨g1,g2⟩:=K t q O D;rw[g1,g2 s M];rfl
     have Dg:=Am RS;have q8:=JX i P;rw[bf O];refine b6 _ ⟨i+1,Z,O,?_,?_,λt y D v=>?_⟩ Z
     ·dsimp only;rw[JY bV,o,H,RG,eb,hx]
     ·dsimp only;rw[H,RG,eb,dQ,<-o];omega
     by_cases ahZ:t=i
     ·subst ahZ;rw[bV] at v;cases v;exact RS
     exact I t y O v
  have ahe:i=p.parts.length:=O
  have hall:jJ p=ab:=by
   rw[d];exact gx.2 (λy H=>by
    obtain⟨t,D⟩:=kT H
    have:=(d6.1 D).1;exact I t y O D)
  rw[<-mD,bg hall,hx,ahe,eb];congr 1;exact decide_eq_decide.2 O
theorem d0(a:7700000<=n)(b:jw p):vU n p=aa (b9 p):=by
 unfold vU;rw[KY a b];unfold b9;cases h:jJ p with
 |false=>rfl
 |true=>
  rw[bg rfl];show aa (decide _)=_;rw[gg];congr 1
  have:=Dt p.parts;exact decide_eq_decide.2 O
theorem ep(h:b9 p=ab):p.bb.length<=4/\lh p.bb/\p.parts.length<=4/\(∀x∈p.parts,eL p.bb x=ab)/\(bL p.parts).length<=120:=by
 simp only[b9,jJ,cB,decide_eq_true_eq,kp] at h;obtain⟨⟨c,d,e⟩,i⟩:=h;obtain⟨a,b⟩:=Ih c
 have:=Dt p.parts
 grind
theorem vS(ca:7700000<=n)(U:b9 p=ab):pz n p=aa (bL p.parts):=by
 obtain⟨cS,cJ,h4,C,V⟩:=ep U;refine ad.eq ?_;unfold pz;refine ad.loop (λx:List cO×Int=> ∃i:Nat,x.2=i/\i<=p.parts.length/\x.1=bL (p.parts.take i)/\x.1.length<=480*i) (λx=>p.parts.length-x.2.toNat) ?_ n _ ⟨0,rfl,O,by simp[bL],bl⟩ Z;rintro D ⟨x,z⟩ ⟨i,b,aL,F,G⟩ Y;dsimp only at b F G⊢;subst b;refine aV (λhlt=>?_) λkJ=>ad.some ?_
 ·have bV:=bD (O:i<p.parts.length);have hm:=bX bV;have d:=C _ hm;generalize yI:p.parts[i]=P at*;obtain⟨mQ,q2,rA,Sr⟩:=gr d;obtain⟨t,H,K,e,L⟩:=sL mQ;generalize R:jl P=v at*;have Dg:=Am d;have E:=JX i P;let row:List Int->List cO:=λq=>(List.range P.body.length).map fun(k:Nat)=>(⟨(i:Int),(k:Int),q⟩:cO)
  have W: ∀q,(row q).length=P.body.length:=λq=>by simp[row]
  have a:oO i P=v.flatMap row:=by unfold oO;rw[R]
  refine ag (bq bV) (hE (E9 t P.nest n 0 [] [] (by have:=t.1;omega) rfl O zp L bl) λr ⟨tJ,wN⟩=>?_);have X:r=v:=by rw[tJ (by rw[<-e];simpa using H),e];rfl
  subst X;refine ad.loop (λy:List cO×Int=> ∃k:Nat,y.2=k/\k<=r.length/\y.1=x++(r.take k).flatMap row) (λy=>r.length-y.2.toNat) ?_ n _ ⟨0,rfl,O,bl⟩ Z;rintro h ⟨y,z⟩ ⟨k,b,hk,l⟩ o;dsimp only at b l⊢;subst b;refine aV (λI=>?_) λM=>?_
  ·have c:=bD (O:k<r.length);have f:=bX c;generalize Jq:r[k]=Q at*;have N:=K _ f;have ahM:Q.length<=4:=by have:=N.1;have:=N.2.1;omega
   have aic:y.length<=480*4+480:=by
    rw[l,dQ,B1 row _ W,c8]
    have:min k r.length*P.body.length<=120*4:=nW O q2.2;omega
   refine ad.loop (λu:List cO×Int=> ∃m:Nat,u.2=m/\m<=P.body.length/\u.1=y++(List.range m).map (fun(k:Nat)=>(⟨(i:Int),(k:Int),Q⟩:cO))) (λu=>P.body.length-u.2.toNat) ?_ n _ ⟨0,rfl,O,bl⟩ Z;rintro s ⟨u,z⟩ ⟨m,b,pG,B⟩ w;dsimp only at b B⊢;subst b;refine aV (λS=>?_) λT=>?_
   ·have q9:u.length<=480*4+480+4:=by rw[B];simp;omega
    refine ag (bq c) (ag (mB _ O) (ag (dM cd) ?_));rw[bf O];refine w _ ⟨m+1,Z,O,?_⟩ Z;dsimp only;rw[B,KX,hf]
   have g:m=P.body.length:=O
   rw[bf O];refine o _ ⟨k+1,Z,O,?_⟩ Z;dsimp only;rw[eN,c,qi,<-hf,<-l,B,g];simp[row]
  have A:k=r.length:=O
  rw[bf O];refine Y _ ⟨i+1,Z,O,?_,?_⟩ Z
  ·dsimp only;rw[JY bV,a,l,A,eb,F]
  dsimp only;rw[l,A,eb,dQ,<-a];omega
 have j:i=p.parts.length:=O
 rw[F,j,eb]
theorem Zd{l:List cC}{x:cC}(h:l[i]? =aa x):gW (l.take (i+1))=gW (l.take i)+ht x.b8:=by unfold gW;rw[List.take_add_one,h];simp
theorem Me(r:7700000<=n)(s:p.bb.length<=4)(h:lh p.bb):AO n p=aa (gW p.bb):=by
 refine ad.eq ?_;unfold AO;refine ad.loop (λx:Int×Int=> ∃i:Nat,x.2=i/\i<=p.bb.length/\x.1=gW (p.bb.take i)/\0<=x.1/\x.1<=36*i) (λx=>p.bb.length-x.2.toNat) ?_ n _ ⟨0,rfl,O,by simp[gW],bl,bl⟩ Z;rintro b ⟨x,z⟩ ⟨i,e,w,k,c,d⟩ l;dsimp only at e k c d⊢;subst e;refine aV (λm=>?_) λo=>ad.some ?_
 ·have bV:=bD (O:i<p.bb.length);have a:=h _ (bX bV);have kL:=sv a;refine ag (bq bV) (ag (H1 O a) ?_);rw[bf (n:=x+ht p.bb[i].b8) O,bf O];exact l _ ⟨i+1,Z,O,by dsimp only;rw[Zd bV];omega,Z,Z⟩ Z
 have q:i=p.bb.length:=O
 grind
theorem Ms(a:7700000<=n)(b:p.bb.length<=4)(c:lh p.bb):DO n p=aa (gW p.bb):=Me a b c
def jU:Nat->List cC->List Int->Expr->List Int->Int
 |0,_,_,_,_=>0
 |L+1,c,m,e,q=>
  if e.kind=1 then e.num
  else if e.kind=2 then gk e.index q%1000
  else if e.kind=3 then m.getD (eP c e.read q 0).toNat 0
  else match e.a1 with
   | [a,b]=>if e.kind=4 then(jU L c m a q+jU L c m b q)%1000 else if e.kind=5 then(jU L c m a q-jU L c m b q)%1000 else(jU L c m a q*jU L c m b q)%1000
   |_=>0
def sH(a:List cC)(m:List Int):Prop:=(m.length:Int)=gW a/\ ∀x∈m,0<=x/\x<=999
theorem ae5(h:sH r m)(i:Nat):0<=m.getD i 0/\m.getD i 0<=999:=by
 rw[fa];cases a:m[i]? with
 |none=>simp
 |some x=>exact h.2 x (bX a)
theorem aeW(b:sH r m): ∀{L:Nat} {e:Expr},dF L e d=ab->0<=jU L r m e q/\jU L r m e q<=999
 |0,e,h=>by cases h
 |L+1,e,h=>by
  obtain⟨c,a,i⟩:=hl h;simp only[jU];split
  ·rename_i cA;unfold eJ at a;rw[be O,be O,bg cA] at a;simp only[cB,decide_eq_true_eq] at a;omega
  split
  ·omega
  split
  ·exact ae5 b _
  split
  ·split
   ·omega
   split<;>omega
  omega
def gG(p:Prog)(x:cO):Prop:= ∃(i k:Nat) (P:Part) (s:Stmt),x.part=i/\x.stmt=k/\p.parts[i]? =aa P/\P.body[k]? =aa s/\x.da∈jl P
def uL(p:Prog)(x:cO):Option Stmt:=(p.parts[x.part.toNat]?).bind λP=>P.body[x.stmt.toNat]?
def jv(p:Prog)(m:List Int)(x:cO):List Int:=match uL p x with
 |some s=>m.set (eP p.bb s.write x.da 0).toNat (jU 5 p.bb m s.value x.da)
 |none=>m
theorem vR(n:b9 p=ab){x:cO}(o:gG p x): ∃(i k:Nat) (P:Part) (s:Stmt) (d:Int),x.part=i/\x.stmt=k/\p.parts[i]? =aa P/\P.body[k]? =aa s/\uL p x=aa s/\eM s d=ab/\il P.nest.length x.da/\gS p.bb s x.da=ab:=by obtain⟨C,D,F,a,q⟩:=ep n;obtain⟨i,k,P,s,h,l,b,c,m⟩:=o;obtain⟨r,G,w,y⟩:=gr (a P (bX b));obtain⟨H,z,e,A,B⟩:=sL r;have hs:=bX c;exact⟨i,k,P,s,_,h,l,b,c,by unfold uL;rw[h,l,dh,b];exact(by rw[dh];exact c),w s hs,e _ m,(y s hs _ m).1⟩
theorem HE(h:gS r s q=ab):0<=eP r s.write q 0/\ ∀a∈eo 5 s.value,0<=eP r a q 0:=by simp only[gS,cB,decide_eq_true_eq,kp] at h;exact h
theorem GK{k:Type}{l:List k}(a:0<=c)(h:c.toNat<l.length)(x:k):ch l c x=aa (l.set c.toNat x):=by unfold ch;rw[bg ⟨a,O⟩]
theorem yk{k:Type}{l:List k}(a:0<=c)(h:c.toNat<l.length):aB l c=aa l[c.toNat]:=by unfold aB;rw[bg a,List.getElem?_eq_getElem h]
theorem O5(c:b9 p=ab)(a:sH p.bb m){x:cO}(e:gG p x):sH p.bb (jv p m x):=by
 obtain⟨i,k,P,s,d,o,q,r,w,l,n,y,z⟩:=vR c e;unfold jv;rw[l];refine⟨by rw[gf];exact a.1,λv b=>?_⟩;rcases xd b with h|h
 ·exact a.2 v h
 rw[h];exact aeW a (kd n).2.1
theorem iT{l:List Part}{x:cO}(h:x∈bL l): ∃(i k:Nat) (P:Part) (s:Stmt),x.part=i/\x.stmt=k/\l[i]? =aa P/\P.body[k]? =aa s/\x.da∈jl P:=by unfold bL at h;rw[zS] at h;obtain⟨⟨P,i⟩,c,a⟩:=h;unfold oO at a;rw[zS] at a;obtain⟨q,d,b⟩:=a;rw[eH] at b;obtain⟨k,e,rfl⟩:=b;have m:=xe.1 e;exact⟨i,k,P,P.body[k],rfl,rfl,Ej.1 c,bD m,d⟩
def mW(p:Prog)(m:List Int)(l:List cO):List Int:=l.foldl (jv p) m
end
section
def fr(B:Nat)(a:aE):Prop:=a.aK.length<=B
def kq(B:Nat)(l:List aE):Prop:=l.length<=B/\ ∀a∈l,fr B a
def sa(B:Nat)(a:List Loop):Prop:=a.length<=B/\ ∀l∈a,kq B l.bo/\kq B l.aL
def kr(B:Nat):Nat->Expr->Prop
 |0,_=>False
 |L+1,e=>e.a1.length<=B/\fr B e.index/\kq B e.read.a7/\ ∀k∈e.a1,kr B L k
def nj(B:Nat)(s:Stmt):Prop:=kq B s.write.a7/\kr B 5 s.value
def im(B:Nat)(x:Part):Prop:=sa B x.nest/\x.body.length<=B/\ ∀s∈x.body,nj B s
def xv(B:Nat)(l:List cC):Prop:=l.length<=B/\ ∀x∈l,x.b8.length<=B
def er(B:Nat)(p:Prog):Prop:=xv B p.bb/\p.parts.length<=B/\ ∀x∈p.parts,im B x
variable {B C n:Nat}{s:Stmt}{p:Prog}{k R:Type}{K:List k->Option R}{Q:R->Prop}{l:List k}
theorem fr.mono(h:B<=C){a:aE}(b:fr B a):fr C a:=eO b h
theorem kq.mono(h:B<=C){l:List aE}(b:kq B l):kq C l:=⟨eO b.1 h,λa c=>(b.2 a c).mono h⟩
theorem sa.mono(h:B<=C){l:List Loop}(b:sa B l):sa C l:=⟨eO b.1 h,λa c=>⟨(b.2 a c).1.mono h,(b.2 a c).2.mono h⟩⟩
theorem kr.mono{B C:Nat}(h:B<=C): ∀{L M:Nat} {e:Expr},L<=M->kr B L e->kr C M e
 |0,_,_,_,a=>a.elim
 |L+1,0,_,b,_=>O
 |L+1,M+1,e,b,a=>⟨eO a.1 h,a.2.1.mono h,a.2.2.1.mono h,λk c=>kr.mono h O (a.2.2.2 k c)⟩
theorem nj.mono(h:B<=C)(a:nj B s):nj C s:=⟨a.1.mono h,a.2.mono h (df _)⟩
theorem im.mono(h:B<=C){s:Part}(a:im B s):im C s:=⟨a.1.mono h,eO a.2.1 h,λs b=>(a.2.2 s b).mono h⟩
theorem xv.mono(h:B<=C){s:List cC}(a:xv B s):xv C s:=⟨eO a.1 h,λs b=>eO (a.2 s b) h⟩
theorem er.mono(h:B<=C)(a:er B p):er C p:=⟨a.1.mono h,eO a.2.1 h,λs b=>(a.2.2 s b).mono h⟩
theorem kq.sm{l:List aE}(h:kq 1100000 l):jY l:=⟨h.1,h.2⟩
theorem kr.sm: ∀{L:Nat} (j:Nat) {e:Expr},kr 1100000 L e->uC j e
 |_,0,_,_=>trivial
 |0,_+1,_,h=>h.elim
 |L+1,j+1,e,h=>⟨h.1,h.2.1,h.2.2.1.sm,λk a=>kr.sm j (h.2.2.2 k a)⟩
theorem nj.sm(h:nj 1100000 s):Bj s:=⟨h.1.sm,h.2.sm 5⟩
theorem sa.sm{l:List Loop}(h:sa 1100000 l):qC l:=⟨h.1,λx a=>⟨(h.2 x a).1.sm,(h.2 x a).2.sm⟩⟩
theorem im.sm{x:Part}(h:im 1100000 x):Ii x:=⟨h.1.sm,h.2.1,λs a=>(h.2.2 s a).sm⟩
theorem er.sm(h:er 1100000 p):jw p:=⟨⟨h.1.1,h.1.2⟩,h.2.1,λx a=>(h.2.2 x a).sm⟩
theorem nL(n:Nat)(c:Int):lK n c=aa ⟨[0,0,0,0],c⟩:=rfl
theorem Gk{h:Type}{f:k->Option h}{g:k->h->k}(e: ∀x∈l,∃z,f x=aa z/\g x z=x)(s:l.length<=1100000)(A:5500000<=n)(B:ad (K l) Q):
  ad (bA (λa ((x,i):List k×Int)=>bif aj (i<(l.length:Int)) then(bI (aB l i) λy=>bI (f y) λz=>bI (app x [g y z]) λw=>a (w,wr (i+1))) else K x) n ([],0)) Q:=by
 refine ad.loop (λz:List k×Int=> ∃i:Nat,z.2=i/\i<=l.length/\z.1=l.take i) (λz=>l.length-z.2.toNat) ?_ n _ ⟨0,rfl,O,bl⟩ Z;rintro a ⟨x,z⟩ ⟨i,d,C,b⟩ m;dsimp only at d b⊢;subst d;refine aV (λo=>?_) λp=>?_
 ·have bV:=bD (O:i<l.length);have q:x.length<=1100000:=by rw[b,c8];omega
  obtain⟨y,r,c⟩:=e _ (bX bV);refine ag (bq bV) (ag r (ag (dM cd) ?_));rw[bf O];refine m _ ⟨i+1,Z,O,?_⟩ Z;dsimp only;rw[eN,bV,b,c];rfl
 have:i=l.length:=O
 grind
theorem mM{f:k->Option k}(b: ∀x∈l,f x=aa x)(c:l.length<=1100000)(d:5500000<=n)(e:ad (K l) Q):
  ad (bA (λa ((x,i):List k×Int)=>bif aj (i<(l.length:Int)) then(bI (aB l i) λy=>bI (f y) λz=>bI (app x [z]) λw=>a (w,wr (i+1))) else K x) n ([],0)) Q:=
 Gk (g:=λ_ z=>z) (λx h=>⟨x,b x h,rfl⟩) c d e
theorem L1: ∀(L n:Nat) (e:Expr),5500000+L<=n->kr 1100000 L e->rI (n+1) e=aa e
 |0,_,_,_,h=>h.elim
 |L+1,n,e,l,h=>by
  obtain⟨a,b,c,d⟩:=h;unfold rI;refine ad.eq (ag (AB n b) (ag (z1 O c.sm) ?_));obtain⟨n,rfl⟩: ∃j,n=j+1:=⟨n-1,O⟩
  exact mM (f:=rI (n+1)) (K:=λi=>aa (⟨e.kind,e.num,e.index,e.read,i⟩:Expr)) (λx k=>L1 L n x O (d x k)) a O (ad.some (by cases e;rfl))
theorem Yv(a:6600000<=n)(h:nj 1100000 s):xo n s=aa s:=by
 obtain⟨n,rfl⟩: ∃j,n=j+1:=⟨n-1,O⟩
 unfold xo;rw[z1 O h.1.sm,L1 5 n s.value O h.2];rfl
theorem Yw(R:6600000<=n){nest:List Loop}(h:sa 1100000 nest):xJ n nest=aa nest:=by
 obtain⟨W,B⟩:=h;refine ad.eq ?_;unfold xJ;refine ad.loop (λz:List Loop×Int=> ∃i:Nat,z.2=i/\i<=nest.length/\z.1=nest.take i) (λz=>nest.length-z.2.toNat) ?_ n _ ⟨0,rfl,O,bl⟩ Z;rintro b ⟨x,z⟩ ⟨i,d,X,m⟩ C;dsimp only at d m⊢;subst d;refine aV (λD=>?_) λF=>ad.some ?_
 ·have bV:=bD (O:i<nest.length);obtain⟨⟨j,G⟩,⟨cA,cP⟩⟩:=B _ (bX bV);have H:x.length<=1100000:=by rw[m,c8];omega
  refine ad.loop (λz:List aE×Int=> ∃t:Nat,z.2=t/\t<=nest[i].bo.length/\z.1=nest[i].bo.take t) (λz=>nest[i].bo.length-z.2.toNat) ?_ n _ ⟨0,rfl,O,bl⟩ Z;rintro e ⟨y,z⟩ ⟨t,d,u,k⟩ o;dsimp only at d k⊢;subst d;refine ag (bq bV) (aV (λw=>?_) λA=>?_)
  ·have c:=bD (O:t<nest[i].bo.length);have L:y.length<=1100000:=by rw[k,c8];omega
   refine ag (bq c) (ag (mB _ (G _ (bX c))) (ag (dM cd) ?_));rw[bf O];refine o _ ⟨t+1,Z,O,?_⟩ Z;dsimp only;rw[eN,c,k];rfl
  have p:t=nest[i].bo.length:=O
  refine Gk (l:=nest[i].aL) (f:=λa:aE=>app [] a.aK) (g:=λa q=>(⟨q,a.const⟩:aE)) (K:=λr=>bI (app x [(⟨y,r⟩:Loop)]) λs=>b (s,wr ((i:Int)+1))) (λa Q=>⟨_,mB _ (cP a Q),rfl⟩) cA O ?_;refine ag (dM cd) ?_;rw[bf O];refine C _ ⟨i+1,Z,O,?_⟩ Z;dsimp only;rw[eN,bV,m,k,p,eb];rfl
 have:i=nest.length:=O
 grind
theorem pR(D:6600000<=n)(h:er 1100000 p):xm n p=aa p:=by
 obtain⟨⟨aP,a2⟩,M,H⟩:=h;refine ad.eq ?_;unfold xm;refine Gk (n:=n) (l:=p.bb) (f:=λr:cC=>app [] r.b8) (g:=λr L=>(⟨r.name,L⟩:cC)) (K:=λQ=>bA (λb ((F,w):(List Part)×Int)=>
    bif aj (w<(p.parts.length:Int)) then(
     bI (aB p.parts w) λe=>
     bI (xJ n e.nest) λy=>
     bA (λc ((d,k):(List Stmt)×Int)=>
      bif aj (k<(e.body.length:Int)) then(
       bI (aB e.body k) λA=>
       bI (xo n A) λB=>
       bI (app d [B]) λC=>
       c (C,wr (k+1))
      ) else(
       bI (app F [(⟨y,d⟩:Part)]) λm=>
       b (m,wr (w+1))
      )
     ) n ([],0)
    ) else(
     aa (⟨Q,F⟩:Prog)
    )
   ) n ([],0)) (λa R=>⟨_,mB _ (a2 a R),rfl⟩) aP O ?_
 refine ad.loop (λz:List Part×Int=> ∃i:Nat,z.2=i/\i<=p.parts.length/\z.1=p.parts.take i) (λz=>p.parts.length-z.2.toNat) ?_ n _ ⟨0,rfl,O,bl⟩ Z;rintro o ⟨x,z⟩ ⟨i,G,N,q⟩ W;dsimp only at G q⊢;subst G;refine aV (λX=>?_) λj=>ad.some ?_
 ·have bV:=bD (O:i<p.parts.length);obtain⟨t,u,v⟩:=H _ (bX bV);have E:x.length<=1100000:=by rw[q,c8];omega
  refine ag (bq bV) (ag (Yw D t) ?_);refine mM (f:=xo n) (K:=λd=>bI (app x [(⟨p.parts[i].nest,d⟩:Part)]) λm=>o (m,wr ((i:Int)+1))) (λs I=>Yv D (v s I)) u O ?_;refine ag (dM cd) ?_;rw[bf O];refine W _ ⟨i+1,Z,O,?_⟩ Z;dsimp only;rw[eN,bV,q];rfl
 have:i=p.parts.length:=O
 rw[q,this,eb]
theorem xZ{i:Nat}{x:k}{P:k->Prop}(h: ∀y∈l,P y)(b:P x): ∀y∈l.set i x,P y:=λy c=>by
 rcases xd c with a|a
 ·exact h y a
 rw[a];exact b
theorem dU{i:Int}(h:0<=i/\i<l.length)(x:k):ch l i x=aa (l.set i.toNat x):=by unfold ch;rw[bg h]
theorem adC{r:List cC}(b:lh r):0<=gW r/\gW r<=36*r.length:=by have c:=nP (λx:cC=>ht x.b8) r λy a=>(sv (b y a)).1;have d:=Cx (λx:cC=>ht x.b8) 36 r λy a=>(sv (b y a)).2;unfold gW;omega
end
variable {k R:Type}{l:List cO}{i q n:Nat}{x a b:cO}{p:Prog}{f:k->R}
theorem fQ{l:List k}{x:k}(h:l[i]? =aa x):l.take (i+1)=l.take i++[x]:=by rw[eN,h];rfl
def dx(p:Prog)(x:cO):Nat:=match uL p x with
 |some s=>(eP p.bb s.write x.da 0).toNat
 |none=>0
def rc(p:Prog)(x:cO):List Int:=match uL p x with
 |some s=>(eo 5 s.value).map (λa=>eP p.bb a x.da 0)
 |none=>[]
def ug(p:Prog)(m:List Int)(x:cO):Int:=match uL p x with
 |some s=>jU 5 p.bb m s.value x.da
 |none=>0
theorem Pf{list:List cC}(b:lh list){a:cx}{q:List Int}(h:0<=eP list a q 0):eP list a q 0<gW list:=by rcases Pg b a q 0 (hA 0) with bU|bU<;>omega
theorem rf(b:b9 p=ab)(n:gG p x):(dx p x:Int)<gW p.bb/\(∀c∈rc p x,0<=c/\c<gW p.bb)/\(rc p x).length<=12/\ ∀m,jv p m x=m.set (dx p x) (ug p m x):=by obtain⟨i,k,P,s,d,C,D,F,G,o,q,H,r⟩:=vR b n;obtain⟨K,e,L,w,y⟩:=ep b;obtain⟨z,h⟩:=HE r;obtain⟨Q,R,W,A⟩:=kd q;unfold dx rc ug jv;rw[o];dsimp only;refine⟨by have:=Pf e z;omega,λc B=>?_,by rw[dH];exact A,λm=>rfl⟩;obtain⟨a,l,rfl⟩:=eH.1 B;exact⟨h a l,Pf e (h a l)⟩
theorem WU(v:7810000<=n)(l:b9 p=ab)(y:gG p x):DC n p x=aa (rc p x,(dx p x:Int)):=by
 obtain⟨i,k,P,s,d,A,B,C,D,m,F,o,G⟩:=vR l y;obtain⟨q,r,E,H,K⟩:=ep l;obtain⟨I,M⟩:=HE G;obtain⟨L,Q,W,N⟩:=kd F;obtain⟨n,rfl⟩: ∃j,n=j+1:=⟨n-1,O⟩
 have c:DS (n+1) p x=aa s:=by
  unfold DS;rw[A,B,bq C];show bI (aB P.body (k:Int)) _=_;rw[bq D];rfl
 have X:(dx p x:Int)=eP p.bb s.write x.da 0:=by unfold dx;rw[m];dsimp only;omega
 have f:rc p x=(eo 5 s.value).map (λa=>eP p.bb a x.da 0):=by unfold rc;rw[m]
 rw[X,f];refine ad.eq ?_;unfold DC;refine ag c (ag (FG (d:=d) 5 n s.value O O Q) ?_);generalize S:eo 5 s.value=R at*;refine ad.loop (λz:List Int×Int=> ∃i:Nat,z.2=i/\i<=R.length/\z.1=(R.take i).map λa=>eP p.bb a x.da 0) (λz=>R.length-z.2.toNat) ?_ (n+1) _ ⟨0,rfl,O,bl⟩ Z;rintro h ⟨out,z⟩ ⟨i,w,T,b⟩ g;dsimp only at w b⊢;subst w;refine aV (λt=>?_) λu=>?_
 ·have bV:=bD (O:i<R.length);refine ag (bq bV) (ag (A6 O q r (W _ (bX bV)) o) (ag (dM (by rw[b,dH,c8,rQ];omega)) ?_));rw[bf O];refine g _ ⟨i+1,Z,O,?_⟩ Z;dsimp only;rw[fQ bV,ib,b];rfl
 have e:i=R.length:=O
 refine ag (A6 O q r L o) (ad.some ?_);rw[b,e,eb]
theorem aau(F:7810000<=n)(b:b9 p=ab)(h:gG p x): ∃P s,aB p.parts x.part=aa P/\aB P.body x.stmt=aa s/\wZ n p.bb s x.da=aa (rc p x,(dx p x:Int),ab):=by
 obtain⟨i,k,P,s,d,l,m,o,q,c,r,w,e⟩:=vR b h;obtain⟨y,z,G,A,B⟩:=ep b;obtain⟨H,K⟩:=HE e;have C:(dx p x:Int)=eP p.bb s.write x.da 0:=by unfold dx;rw[c];dsimp only;omega
 have D:rc p x=(eo 5 s.value).map (λa=>eP p.bb a x.da 0):=by unfold rc;rw[c]
 refine⟨P,s,by rw[l];exact bq o,by rw[m];exact bq q,?_⟩;rw[Lu O y z r w,bg e,C,D]
theorem MZ{r:List cC}{m l:List Int}{q:List Int}{d:Int}: ∀{L:Nat} {e:Expr},dF L e d=ab->(∀a∈eo L e,m.getD (eP r a q 0).toNat 0=l.getD (eP r a q 0).toNat 0)->jU L r m e q=jU L r l e q
 |0,e,h,_=>by cases h
 |L+1,e,h,n=>by
  obtain⟨w,x,p⟩:=hl h;simp only[jU];split
  ·rfl
  split
  ·rfl
  split
  ·rename_i eu;exact n _ (by simp[eo,eu])
  have i: ∀c∈e.a1,jU L r m c q=jU L r l c q:=λc o=>
   MZ (p c o) λa s=>n a (by simp only[eo,List.mem_append,List.mem_flatMap];exact .inr ⟨c,o,s⟩)
  split
  ·rename_i a b k;rw[k] at i;rw[i a bl,i b bl]
  rfl
theorem adS(b:b9 p=ab)(l:gG p x){m e:List Int}(h: ∀c∈rc p x,m.getD c.toNat 0=e.getD c.toNat 0):ug p m x=ug p e x:=by obtain⟨i,k,P,s,d,r,w,y,z,n,o,A,B⟩:=vR b l;unfold ug;unfold rc at h;rw[n] at h⊢;exact MZ (kd o).2.1 λa q=>h _ (List.mem_map_of_mem q)
theorem N9(l:List k)(i j:Nat)(x d:k):(l.set i x).getD j d=if i=j/\i<l.length then x else l.getD j d:=by
 rw[fa,fa,List.getElem?_set];split
 ·rename_i h;subst h;split
  ·rename_i a;rw[bg ⟨rfl,a⟩];rfl
  rename_i a;rw[be O,El O]
 rename_i h;rw[be λa=>h a.1]
def p9(l:List Bool):List Int:=((List.range l.length).filter λi=>l.getD i al).map (fun(i:Nat)=>(i:Int))
theorem XX{l:List Bool}(r:l.length<n)(k:l.length<=1100000):wy n l=aa (p9 l):=by
 refine ad.eq ?_;unfold wy;refine ad.loop (λz:List Int×Int=> ∃i:Nat,z.2=i/\i<=l.length/\z.1.length<=i/\z.1=((List.range i).filter λi=>l.getD i al).map (fun(i:Nat)=>(i:Int))) (λz=>l.length-z.2.toNat) ?_ n _ ⟨0,rfl,O,bl,bl⟩ Z;rintro c ⟨out,z⟩ ⟨i,a,s,pI,b⟩ m;dsimp only at a b pI⊢;subst a;refine aV (λo=>?_) λp=>ad.some ?_
 ·have bV:=bD (O:i<l.length);have q:l.getD i al=l[i]:=by rw[fa,bV];rfl
  refine ad.aQ (λz=>z.length<=i+1/\z=((List.range (i+1)).filter λi=>l.getD i al).map (fun(i:Nat)=>(i:Int))) (λj d=>ag (bq bV) (ad.cond (λh=>ag (dM (by rw[rQ];omega)) (d _ ?_)) λh=>d _ ?_)) λz a=>?_
  ·refine⟨by rw[dQ,rQ];omega,?_⟩;rw[qf,xa,ib,<-b];simp[bV,h]
  ·refine⟨O,?_⟩;rw[qf,xa,ib,<-b];simp[bV,h]
  rw[bf O];exact m _ ⟨i+1,Z,O,a.1,a.2⟩ Z
 have e:i=l.length:=O
 rw[b,e];rfl
theorem Lx{l:List Bool}(b:l.length<n)(a:l.length<=1100000):wy n l=aa (p9 l):=XX b a
theorem LY(l:List Bool):(p9 l).length<=l.length:=by unfold p9;rw[dH];exact eO (List.length_filter_le _ _) bl
theorem Ff{l:List Bool}{c:Int}:c∈p9 l↔0<=c/\l.getD c.toNat al=ab:=by
 unfold p9;simp only[List.mem_map,List.mem_filter,List.mem_range];constructor
 ·rintro⟨i,⟨d,a⟩,rfl⟩;exact⟨O,by rw[dh];exact a⟩
 rintro⟨d,a⟩;refine⟨c.toNat,⟨?_,a⟩,O⟩;refine nV λb=>?_;rw[fa,El b] at a;cases a
theorem WX(b:7700000<=n)(c:jw p): ∃L,vj n p=aa (L,b9 p)/\(b9 p=ab->L=bL p.parts):=by
 rw[KY b c];cases a:jJ p with
 |false=>
  refine⟨[],?_,λh=>?_⟩
  ·rw[be bl,show b9 p=al by unfold b9;rw[a];rfl]
  unfold b9 at h;rw[a] at h;cases h
 |true=>
  refine⟨bL p.parts,?_,λ_=>rfl⟩;rw[bg rfl,show b9 p=aj ((bL p.parts).length<=120) by
   unfold b9;rw[a,Bool.true_and];exact decide_eq_decide.2 (by have:=Dt p.parts;omega)]
abbrev iB(p:Prog):Nat:=(gW p.bb).toNat
theorem Io{n:Int}(h:0<=n/\n<=1000000000)(x:k):mk n x=aa (dn n.toNat x):=by unfold mk;rw[bg h]
def pick(l:List cO)(o:List Int):List cO:=o.filterMap λc=>l[c.toNat]?
def Lp(p:Prog)(a b:cO):Prop:=(dx p a:Int)∈rc p b\/(dx p b:Int)∈rc p a\/dx p a=dx p b
def I1(p:Prog)(a b:cO):Prop:= ∀m,sH p.bb m->jv p (jv p m a) b=jv p (jv p m b) a
theorem PQ(a:b9 p=ab)(d:gG p b){w:Nat}(h:(w:Int)∉rc p b)(m:List Int)(v:Int):ug p (m.set w v) b=ug p m b:=by
 refine adS a d λc e=>?_;have i:=(rf a d).2.1 c e
 grind
theorem swap(c:b9 p=ab)(d:gG p a)(i:gG p b)(h: ¬Lp p a b):I1 p a b:=by intro m _;have n:(dx p a:Int)∉rc p b:=λe=>h (.inl e);have o:(dx p b:Int)∉rc p a:=λe=>h (.inr (.inl e));have q:dx p a≠dx p b:=λe=>h (.inr (.inr e));have k:=(rf c d).2.2.2;have l:=(rf c i).2.2.2;rw[k,l,l,k,PQ c i n,PQ c d o,List.set_comm _ _ q]
def oj(p:Prog)(a b:cO):Int:=(if(dx p a:Int)∈rc p b then 1 else 0)+(if(dx p b:Int)∈rc p a then 2 else 0)+(if dx p a=dx p b then 4 else 0)
theorem afu(p:Prog)(a b:cO):0<=oj p a b/\oj p a b<=7:=by
 unfold oj
 grind
def mJ(p:Prog)(l:List cO)(i k:Nat):Int:=match l[i]?,l[k]? with
 |some a,aa b=>oj p a b
 |_,_=>0
theorem Hm{k:Nat}(c:l[i]? =aa a)(d:l[k]? =aa b):mJ p l i k=oj p a b:=by unfold mJ;rw[c,d]
theorem Ui(p:Prog)(l:List cO)(i k:Nat):0<=mJ p l i k/\mJ p l i k<=7:=by
 unfold mJ;split
 ·exact afu _ _ _
 omega
def ln(p:Prog)(l:List cO)(i j:Nat):List fW:=((List.range j).filter λk=>decide (i<k)&&aj (mJ p l i k≠0)).map (fun(k:Nat)=>(⟨(i:Int),(k:Int),mJ p l i k⟩:fW))
def gv(p:Prog)(l:List cO)(n:Nat):List fW:=(List.range n).flatMap λi=>ln p l i l.length
theorem Ev(p:Prog)(l:List cO){j:Nat}(h:i<j):ln p l i (j+1)=ln p l i j++(if mJ p l i j=0 then [] else [⟨(i:Int),(j:Int),mJ p l i j⟩]):=by
 unfold ln;rw[qf,xa,ib]
 grind
theorem FJ(p:Prog)(l:List cO)(i:Nat): ∀j,j<=i+1->ln p l i j=[]
 |0,_=>rfl
 |j+1,h=>by have a:=FJ p l i j O;unfold ln at a⊢;rw[qf,xa,ib,a];simp[show¬i<j by omega]
theorem FI(p:Prog)(l:List cO)(n:Nat):gv p l (n+1)=gv p l n++ln p l n l.length:=by unfold gv;rw[qf,qi];simp
theorem FK(p:Prog)(l:List cO)(i j:Nat):(ln p l i j).length<=j:=by
 unfold ln
 grind
theorem Al(p:Prog)(l:List cO): ∀n,(gv p l n).length<=n*l.length
 |0=>by simp[gv]
 |n+1=>by
  rw[FI,dQ,dN,Nat.one_mul]
  have:=Al p l n
  have:=FK p l n l.length;omega
theorem Om{d:fW}:d∈gv p l l.length↔ ∃i k:Nat,i<k/\k<l.length/\mJ p l i k≠0/\d=⟨(i:Int),(k:Int),mJ p l i k⟩:=by
 unfold gv ln;simp only[List.mem_flatMap,List.mem_range,List.mem_map,List.mem_filter,cB,decide_eq_true_eq]
 grind
def places(o:List Int):Nat->List Int
 |0=>dn o.length 0
 |k+1=>(places o k).set (o.getD k 0).toNat (k:Int)
def o7(p:Prog)(l:List cO)(i:Nat):Int:=match l[i]? with
 |some a=>(dx p a:Int)
 |none=> -1
def DU(p:Prog)(l:List cO)(i:Nat):List Int:=match l[i]? with
 |some a=>rc p a
 |none=>[]
theorem xB(h:l[i]? =aa a):o7 p l i=(dx p a:Int):=by unfold o7;rw[h]
theorem Bm(h:l[i]? =aa a):DU p l i=rc p a:=by unfold DU;rw[h]
def jd(p:Prog)(l:List cO)(c:Int):Nat->Int
 |0=> -1
 |i+1=>if o7 p l i=c then(i:Int) else jd p l c i
theorem PK(p:Prog)(l:List cO)(c:Int): ∀i,-1<=jd p l c i/\jd p l c i<(i:Int)
 |0=>by simp[jd]
 |i+1=>by have:=PK p l c i;unfold jd;split<;>omega
def mi(p:Prog)(l:List cO)(i:Nat):Bool:= !(l.drop (i+1)).any λx=>decide ((dx p x:Int)=o7 p l i)
def kA(f:List Bool)(a:List Int):List Bool:=a.foldl (λf s=>if 0<=s then f.set s.toNat ab else f) f
theorem Bp: ∀(a:List Int) (f:List Bool),(kA f a).length=f.length
 | [],f=>rfl
 |s::a,f=>by
  show(kA (if 0<=s then f.set s.toNat ab else f) a).length=_;rw[Bp];split
  ·rw[gf]
  rfl
theorem A1(f:List Bool)(a:List Int)(s:Int):kA f (a++[s])=if 0<=s then(kA f a).set s.toNat ab else kA f a:=by unfold kA;rw[List.foldl_append];rfl
theorem N4{i:Nat}: ∀{a:List Int} {f:List Bool},i<f.length->((kA f a).getD i al=ab↔f.getD i al=ab\/(i:Int)∈a)
 | [],f,_=>by simp[kA]
 |s::a,f,h=>by
  show(kA (if 0<=s then f.set s.toNat ab else f) a).getD i al=ab↔_;rw[N4 (by split;rw[gf];exact h;exact h),eh];by_cases b:0<=s
  ·rw[bg b,N9];by_cases e:s.toNat=i
   ·rw[bg ⟨e,O⟩];simp[show(i:Int)=s by omega]
   rw[be λc=>e c.1]
   have: ¬(i:Int)=s:=O
   simp[this]
  rw[be b]
  have: ¬(i:Int)=s:=O
  simp[this]
def ig(p:Prog)(l:List cO)(i:Nat):List Int:=(DU p l i).map λc=>jd p l c i
def kU(p:Prog)(l:List cO):Nat->List Bool
 |0=>dn l.length al
 |j+1=>if(kU p l j).getD (l.length-1-j) al=ab\/mi p l (l.length-1-j)=ab then kA ((kU p l j).set (l.length-1-j) ab) (ig p l (l.length-1-j)) else kU p l j
theorem tK(p:Prog)(l:List cO): ∀j,(kU p l j).length=l.length
 |0=>by simp[kU]
 |j+1=>by
  unfold kU;split
  ·rw[Bp,gf,tK p l j]
  exact tK p l j
abbrev kV(p:Prog)(l:List cO):List Bool:=kU p l l.length
def uW(a b:aE):Bool:=aj (a.aK=b.aK)&&aj (a.const=b.const)
def qn:List aE->List aE->Bool
 | [],[]=>ab
 |a::as,b::c=>uW a b&&qn as c
 |_,_=>al
theorem Qc: ∀d∈gv p l l.length,0<=d.1/\d.1<d.2/\d.2<(l.length:Int):=by
 intro d a;obtain⟨i,k,b,c,e,rfl⟩:=Om.1 a
 grind
theorem E2{l:List Int}(m:l.length<n)(o:l.length<=1100000)(v:Int):vT n l v=aa (aj (v∈l)):=by
 refine ad.eq ?_;unfold vT;refine hE (P:=λi=>decide ((0:Int)<=i)=aj (v∈l)) ?_ λx b=>ad.some b;unfold Fa;refine ad.loop (λz:Int=> ∃i:Nat,z=i/\i<=l.length/\v∉l.take i) (λz=>l.length-z.toNat) ?_ n 0 ⟨0,rfl,O,bl⟩ O;rintro a z ⟨i,rfl,p,c⟩ d;refine aV (λh=>?_) λk=>ad.some ?_
 ·have bV:=bD (O:i<l.length);refine ag (bq bV) (aV (λe=>ad.some ?_) λe=>?_)
  ·rw[bS O,bS];rw[e];exact bX bV
  rw[bf O];refine d _ ⟨i+1,O,O,?_⟩ O;rw[fQ bV,eX,qj]
  grind
 have e:i=l.length:=O
 grind
theorem GO{l:List Int}(k:l.length<n)(m:l.length<=1100000)(v:Int):uu n l v=aa (aj (v∈l)):=by
 refine ad.eq ?_;unfold uu;refine ad.loop (λz:Int=> ∃i:Nat,z=i/\i<=l.length/\v∉l.take i) (λz=>l.length-z.toNat) ?_ n 0 ⟨0,rfl,O,bl⟩ O;rintro a z ⟨i,rfl,o,b⟩ c;refine aV (λd=>?_) λh=>ad.some ?_
 ·have bV:=bD (O:i<l.length);refine ag (bq bV) (aV (λe=>ad.some ?_) λe=>?_)
  ·rw[bS];rw[<-e];exact bX bV
  rw[bf O];refine c _ ⟨i+1,O,O,?_⟩ O;rw[fQ bV,eX,qj]
  grind
 have e:i=l.length:=O
 grind
def gw(p:Prog):oo:=⟨p,bL p.parts,(bL p.parts).map (rc p),(bL p.parts).map λx=>(dx p x:Int)⟩
theorem lg{l:List k}{x:k}(h:l[i]? =aa x):(l.map f)[i]? =aa (f x):=by rw[eG,h];rfl
theorem Bq{l:List k}{x:k}(h:l[i]? =aa x):(l.take (i+1)).map f=(l.take i).map f++[f x]:=by rw[fQ h,ib];rfl
theorem tz(A:7810000<=n)(m:jw p):p8 n p=aa (if b9 p=ab then(aa (gw p),ab) else(none,al)):=by
 obtain⟨L,o,q⟩:=WX (n:=n) O m;refine ad.eq ?_;unfold p8;refine ag o ?_;dsimp only;cases h:b9 p with
 |false=>exact ad.some rfl
 |true=>
  rw[q h];have r:=(ep h).2.2.2.2;refine b1 (ad.loop (λz:List (List Int)×List Int×Int=> ∃i:Nat,z.2.2=i/\i<=(bL p.parts).length/\z.1=((bL p.parts).take i).map (rc p)/\z.2.1=((bL p.parts).take i).map λx=>(dx p x:Int)) (λz=>(bL p.parts).length-z.2.2.toNat) ?_ n _ ⟨0,rfl,O,rfl,rfl⟩ (by first|omega|(dsimp only;omega)));rintro k ⟨a,b,z⟩ ⟨i,l,B,c,d⟩ s;dsimp only at l c d⊢;subst l;refine aV (λw=>?_) λy=>ad.some ?_
  ·have bV:=bD (O:i<(bL p.parts).length);refine ag (bq bV) (ag (WU O h (iT (bX bV))) (ag (dM (by rw[c,dH,c8,rQ];omega)) (ag (dM (by rw[d,dH,c8,rQ];omega)) ?_)));rw[bf O];exact s _ ⟨i+1,Z,O,by dsimp only;rw[Bq bV,c],by dsimp only;rw[Bq bV,d]⟩ Z
  have e:i=(bL p.parts).length:=O
  rw[c,d,e,eb];rfl
def l8(p:Prog):List kZ:=(bL p.parts).map λx=>(⟨rc p x,(dx p x:Int)⟩:kZ)
theorem Gw(k:7810000<=n)(b:b9 p=ab):xk n p=aa (l8 p):=by
 have l:=(ep b).2.2.2.2;refine ad.eq ?_;unfold xk l8;refine ag (vS O b) (ad.loop (λz:List kZ×Int=> ∃i:Nat,z.2=i/\i<=(bL p.parts).length/\z.1=((bL p.parts).take i).map λx=>(⟨rc p x,(dx p x:Int)⟩:kZ)) (λz=>(bL p.parts).length-z.2.toNat) ?_ n _ ⟨0,rfl,O,rfl⟩ Z);rintro c ⟨a,z⟩ ⟨i,h,A,d⟩ m;dsimp only at h d⊢;subst h;refine aV (λo=>?_) λq=>ad.some ?_
 ·have bV:=bD (O:i<(bL p.parts).length);obtain⟨P,s,r,w,y⟩:=aau k b (iT (bX bV));refine ag (bq bV) (ag r (ag w (ag y (ag (dM (by rw[d,dH,c8,rQ];omega)) ?_))));rw[bf O];exact m _ ⟨i+1,Z,O,by dsimp only;rw[Bq bV,d]⟩ Z
 have e:i=(bL p.parts).length:=O
 grind
theorem sg(b:b9 p=ab)(c: ∀x∈l,gG p x)(h:l[i]? =aa a):(rc p a).length<=12:=(rf b (c _ (bX h))).2.2.1
theorem Pq{Q:R->Prop}{A B:Option Bool}(q:A=aa (aj ((dx p a:Int)∈rc p b)))(r:B=aa (aj ((dx p b:Int)∈rc p a))){c:Int->Option R}(h:ad (c (oj p a b)) Q):
  ad (aQ (fun(m:Int)=>aQ (fun(i:Int)=>aQ c λk=>bif aj ((dx p a:Int)=(dx p b:Int)) then(k (wr (i+4))) else(k i))
   λn=>bI B λs=>bif s then(n (wr (m+2))) else(n m))
   λo=>bI A λw=>bif w then(o (wr (0+1))) else(o 0)) Q:=by
 refine ad.aQ (λz=>z=if(dx p a:Int)∈rc p b then 1 else 0) (λj d=>ag q (aV (λe=>d _ (by rw[bg e];rfl)) λe=>d _ (by rw[be e]))) λz l=>?_;subst l;refine ad.aQ (λz=>z=(if(dx p a:Int)∈rc p b then 1 else 0)+if(dx p b:Int)∈rc p a then 2 else 0) (λj d=>ag r (aV (λe=>d _ ?_) λe=>d _ ?_)) λz l=>?_
 ·rw[bg e];split<;>rfl
 ·rw[be e,Int.add_zero]
 subst l;refine ad.aQ (λz=>z=oj p a b) (λj d=>aV (λe=>d _ ?_) λe=>d _ ?_) λz l=>by subst l;exact h
 ·unfold oj;rw[bg (O:dx p a=dx p b)];split<;>split<;>rfl
 unfold oj;rw[be (show¬dx p a=dx p b by omega),Int.add_zero]
theorem WY(r:7810000<=n)(h:b9 p=ab){k:Nat}(c:(bL p.parts)[i]? =aa a)(d:(bL p.parts)[k]? =aa b):DG n (gw p) (i:Int) (k:Int)=aa (mJ p (bL p.parts) i k):=by rw[Hm c d];have s:=sg h (λx e=>iT e) c;have w:=sg h (λx e=>iT e) d;have l:aB (gw p).reads (i:Int)=aa (rc p a):=bq (lg c);have m:aB (gw p).reads (k:Int)=aa (rc p b):=bq (lg d);have o:aB (gw p).i' (i:Int)=aa (dx p a:Int):=bq (lg c);have q:aB (gw p).i' (k:Int)=aa (dx p b:Int):=bq (lg d);refine ad.eq ?_;unfold DG;rw[l,m,o,q];exact Pq (E2 O O _) (E2 O O _) (ad.some rfl)
theorem Zh(c:7810000<=n)(d:(rc p a).length<=12)(e:(rc p b).length<=12):AN n ⟨rc p a,(dx p a:Int)⟩ ⟨rc p b,(dx p b:Int)⟩=aa (oj p a b):=by refine ad.eq ?_;unfold AN;exact Pq (GO O O _) (GO O O _) (ad.some rfl)
theorem Gg(K:7810000<=n)(D:b9 p=ab):vV n (gw p)=aa (gv p (bL p.parts) (bL p.parts).length):=by
 have s:=(ep D).2.2.2.2;refine ad.eq ?_;unfold vV;rw[show(gw p).list=bL p.parts from rfl];generalize m:bL p.parts=l at*;have L: ∀x∈l,gG p x:=λx Q=>iT (by rw[m];exact Q);refine ad.loop (λz:List fW×Int=> ∃i:Nat,z.2=i/\i<=l.length/\z.1=gv p l i) (λz=>l.length-z.2.toNat) ?_ n _ ⟨0,rfl,O,rfl⟩ Z;rintro w ⟨a,z⟩ ⟨i,o,g,A⟩ R;dsimp only at o A⊢;subst o;refine aV (λW=>?_) λX=>ad.some ?_
 ·have bV:=bD (O:i<l.length);rw[bf O];refine ad.loop (λz:List fW×Int=> ∃j:Nat,z.2=j/\i<j/\j<=l.length/\z.1=gv p l i++ln p l i j) (λz=>l.length-z.2.toNat) ?_ n _ ⟨i+1,Z,O,O,by dsimp only;rw[A,FJ p l i _ (df _),jr]⟩ Z;rintro q ⟨b,y⟩ ⟨j,F,c,t,r⟩ B;dsimp only at F r⊢;subst F;refine aV (λG=>?_) λH=>?_
  ·have C:=bD (O:j<l.length);have d:=WY K D (i:=i) (k:=j) (by rw[m];exact bV) (by rw[m];exact C);rw[m] at d;have f:=(Ui p l i j).1;refine ad.aQ (λz=>z=gv p l i++ln p l i (j+1)) (λu h=>ag d (aV (λe=>ag (dM ?_) (h _ ?_)) λe=>h _ ?_)) λz o=>?_
   ·have v:=Al p l i;have E:=FK p l i j;have I:i*l.length<=120*120:=nW O s
    grind
   ·rw[r,Ev p l c,be O,hf]
   ·rw[r,Ev p l c,bg O,jr]
   subst o;rw[bf O];exact B _ ⟨j+1,Z,O,O,rfl⟩ Z
  have e:j=l.length:=O
  try rw[bf O]
  exact R _ ⟨i+1,Z,O,by dsimp only;rw[r,e,FI]⟩ Z
 have e:i=l.length:=O
 rw[A,e]
theorem Gx(G:7810000<=n)(q:b9 p=ab):xl n p=aa (gv p (bL p.parts) (bL p.parts).length):=by
 have A:=(ep q).2.2.2.2;refine ad.eq ?_;unfold xl;refine ag (Gw G q) ?_;have B:(l8 p).length=(bL p.parts).length:=by unfold l8;rw[dH]
 have d: ∀(i:Nat) x,(bL p.parts)[i]? =aa x->aB (l8 p) (i:Int)=aa ⟨rc p x,(dx p x:Int)⟩:=λi x h=>bq (lg h);rw[B];generalize l8 p=u at*;generalize Q:bL p.parts=l at*;have k: ∀x∈l,gG p x:=λx R=>iT (by rw[Q];exact R);refine ad.loop (λz:List fW×Int=> ∃i:Nat,z.2=i/\i<=l.length/\z.1=gv p l i) (λz=>l.length-z.2.toNat) ?_ n _ ⟨0,rfl,O,rfl⟩ Z;rintro C ⟨a,z⟩ ⟨i,r,t,D⟩ W;dsimp only at r D⊢;subst r;refine aV (λX=>?_) λf=>ad.some ?_
 ·have bV:=bD (O:i<l.length);rw[bf O];refine ad.loop (λz:List fW×Int=> ∃j:Nat,z.2=j/\i<j/\j<=l.length/\z.1=gv p l i++ln p l i j) (λz=>l.length-z.2.toNat) ?_ n _ ⟨i+1,Z,O,O,by dsimp only;rw[D,FJ p l i _ (df _),jr]⟩ Z;rintro s ⟨b,y⟩ ⟨j,H,m,v,w⟩ F;dsimp only at H w⊢;subst H;refine aV (λK=>?_) λL=>?_
  ·have c:=bD (O:j<l.length);have g:=Zh G (sg q k bV) (sg q k c);refine ad.aQ (λz=>z=gv p l i++ln p l i (j+1)) (λE o=>ag (d _ _ bV) (ag (d _ _ c) (ag g (dV (λe=>ag (dM ?_) (o _ ?_)) λe=>o _ ?_)))) λz r=>?_
   ·have I:=Al p l i;have M:=FK p l i j;have N:i*l.length<=120*120:=nW O A
    grind
   ·rw[w,Ev p l m,Hm bV c,be e,hf]
   ·rw[w,Ev p l m,Hm bV c,bg e,jr]
   subst r;rw[bf O];exact F _ ⟨j+1,Z,O,O,rfl⟩ Z
  have e:j=l.length:=O
  try rw[bf O]
  exact W _ ⟨i+1,Z,O,by dsimp only;rw[w,e,FI]⟩ Z
 have e:i=l.length:=O
 rw[D,e]
theorem AK(p:Prog)(l:List cO)(c:Int)(i:Nat):jd p l c (i+1)=if o7 p l i=c then(i:Int) else jd p l c i:=rfl
theorem WV(v:7810000<=n)(F:b9 p=ab)(K:i<(bL p.parts).length):DF n (gw p) (i:Int)=aa (ig p (bL p.parts) i):=by
 have L:=(ep F).2.2.2.2;have o: ∀x∈bL p.parts,gG p x:=λx Q=>iT Q;have r:=bD K;have E:=sg F o r;have R:aB (gw p).reads (i:Int)=aa (rc p (bL p.parts)[i]):=bq (lg r);refine ad.eq ?_;unfold DF ig;rw[Bm r,R];generalize rc p (bL p.parts)[i]=b at*;have w:wr ((i:Int)-1)=(i:Int)-1:=bf O;rw[w];refine ag rfl (ad.loop (λz:List Int×Int=> ∃k:Nat,z.2=k/\k<=b.length/\z.1=(b.take k).map λc=>jd p (bL p.parts) c i) (λz=>b.length-z.2.toNat) ?_ n _ ⟨0,rfl,O,rfl⟩ Z);rintro d ⟨a,z⟩ ⟨k,l,I,A⟩ W;dsimp only at l A⊢;subst l;refine aV (λX=>?_) λf=>ad.some ?_
 ·have bV:=bD (O:k<b.length);refine ag (bq bV) ?_;have fin: ∀y:Int,y=jd p (bL p.parts) b[k] i->ad (bI (app a [y]) λB=>d (B,wr ((k:Int)+1))) (λx=>x=b.map λc=>jd p (bL p.parts) c i):=by
   intro y g;refine ag (dM (by rw[A,dH,c8,rQ];omega)) ?_;rw[bf O];exact W _ ⟨k+1,Z,O,by dsimp only;rw[Bq bV,A,g]⟩ Z
  refine ad.loop (λz:Int=> ∃s:Nat,z=(s:Int)-1/\s<=i/\jd p (bL p.parts) b[k] i=jd p (bL p.parts) b[k] s) (λz=>(z+1).toNat) ?_ n _ ⟨i,rfl,df _,rfl⟩ O;rintro m z ⟨s,rfl,M,h⟩ C;refine ad.aQ (λz=>z=ab/\(∃q,s=q+1/\o7 p (bL p.parts) q≠b[k])\/z=al/\(s:Int)-1=jd p (bL p.parts) b[k] i) (λj G=>aV (λt=>?_) λt=>G _ (.inr ⟨rfl,?_⟩)) λz l=>?_
  ·obtain⟨q,rfl⟩: ∃q,s=q+1:=⟨s-1,O⟩
   have H:=bD (O:q<(bL p.parts).length);have u:aB (gw p).i' (((q+1:Nat):Int)-1)=aa (o7 p (bL p.parts) q):=by
    rw[show((q+1:Nat):Int)-1=(q:Int) by omega,xB H];exact bq (lg H)
   refine ag u ?_;by_cases e:o7 p (bL p.parts) q=b[k]
   ·rw[bS e];refine G _ (.inr ⟨rfl,?_⟩);rw[h,AK,bg e];omega
   rw[bR e]
   grind
  ·have:s=0:=O
   subst this;rw[h];rfl
  rcases l with ⟨rfl,q,rfl,D⟩|⟨rfl,l⟩
  ·refine bW ?_;rw[bf O];exact C _ ⟨q,O,O,by rw[h,AK,be D]⟩ O
  exact b1 (fin _ l)
 have e:k=b.length:=O
 grind
theorem Xe(A:7810000<=n)(m:b9 p=ab)(B:i<=(bL p.parts).length)(c:Int):EW n (l8 p) (i:Int) c=aa (jd p (bL p.parts) c i):=by
 have o:=(ep m).2.2.2.2;have d: ∀(i:Nat) x,(bL p.parts)[i]? =aa x->aB (l8 p) (i:Int)=aa ⟨rc p x,(dx p x:Int)⟩:=λi x h=>bq (lg h);refine ad.eq ?_;unfold EW;rw[bf O];refine ad.loop (λz:Int=> ∃s:Nat,z=(s:Int)-1/\s<=i/\jd p (bL p.parts) c i=jd p (bL p.parts) c s) (λz=>(z+1).toNat) ?_ n _ ⟨i,rfl,df _,rfl⟩ O;rintro b z ⟨s,rfl,C,a⟩ k;refine aV (λr=>?_) λr=>ad.some ?_
 ·obtain⟨q,rfl⟩: ∃q,s=q+1:=⟨s-1,O⟩
  have l:=bD (O:q<(bL p.parts).length);have w:=d _ _ l;have y:((q+1:Nat):Int)-1=(q:Int):=O
  rw[y];refine ag w (aV (λe=>ad.some ?_) λe=>?_)
  ·dsimp only at e;rw[a,AK,xB l,bg e]
  dsimp only at e;rw[bf O];exact k _ ⟨q,O,O,by rw[a,AK,xB l,be e]⟩ O
 have:s=0:=O
 subst this;rw[a];rfl
theorem aef{f:cO->Int}{w:Int}:aj (w∈l.map f)=l.any (λx=>decide (f x=w)):=by grind
theorem MH(p:Prog)(l:List cO)(j q:Nat)(h:l.length-1-j=q):kU p l (j+1)=if(kU p l j).getD q al=ab\/mi p l q=ab then kA ((kU p l j).set q ab) (ig p l q) else kU p l j:=by subst h;rfl
theorem NS{k:Nat}{y:Int}(h:(ig p l q)[k]? =aa y): -1<=y/\y<(q:Int):=by
 unfold ig at h;rw[eG] at h;cases a:(DU p l q)[k]? with
 |none=>rw[a] at h;cases h
 |some c=>rw[a] at h;cases h;exact PK p l c q
theorem abn(u:7810000<=n)(G:b9 p=ab):DW n (gw p)=aa (kV p (bL p.parts)):=by
 have v:=(ep G).2.2.2.2;have H: ∀x∈bL p.parts,gG p x:=λx E=>iT E;have K:=fun(i:Nat) h=>WV u G (i:=i) h;have a:(gw p).i'.length=(bL p.parts).length:=by unfold gw;dsimp only;rw[dH]
 have s:(gw p).i'=(bL p.parts).map (λx=>(dx p x:Int)):=rfl;refine ad.eq ?_;unfold DW;refine ag (Io (n:=((gw p).list.length:Int)) (x:=al) (by show _/\((bL p.parts).length:Int)<=_;omega)) ?_;rw[show((gw p).list.length:Int)=((bL p.parts).length:Int) from rfl,dh,a,bf O];generalize Y:bL p.parts=l at*;refine ad.loop (λz:List Bool×Int=> ∃j:Nat,z.2=(l.length:Int)-1-j/\j<=l.length/\z.1=kU p l j) (λz=>(z.2+1).toNat) ?_ n _ ⟨0,Z,O,rfl⟩ Z;rintro L ⟨f,z⟩ ⟨j,m,hj,C⟩ I;dsimp only at m C⊢;refine aV (λM=>?_) λM=>ad.some ?_
 ·obtain⟨q,N⟩: ∃q,l.length-1-j=q:=⟨_,rfl⟩
  have Q:z=(q:Int):=O
  subst Q;have w:q<l.length:=O
  have R:f.length=l.length:=by rw[C,tK]
  have bV:=bD w;have r:=bD (O:q<f.length);have W:f.getD q al=f[q]:=by rw[fa,r];rfl
  have b:=MH p l j q N;rw[<-C] at b;refine ad.aQ (λz=>z=kU p l (j+1)) (λDu A=>?_) λz m=>?_
  ·refine ad.aQ (λz=>z= !decide (f.getD q al=ab\/mi p l q=ab)) (λSg c=>ag (bq r) ?_) λz m=>?_
   ·rw[W] at c;cases bw:f[q] with
    |true=>rw[bw] at c;exact b1 (c _ bl)
    |false=>
     rw[bw] at c;have X:aB (gw p).i' (q:Int)=aa (dx p l[q]:Int):=by rw[s];exact bq (lg bV)
     rw[bf O];refine bW (ag (iU O O (by rw[a];omega)) (ag X (ag (E2 ?_ ?_ _) (c _ ?_))))
     ·rw[fN,c8,a];omega
     ·rw[fN,c8,a];omega
     rw[show(((l.length:Nat):Int)).toNat=l.length by omega,<-a,eb,show(((q:Int)+1)).toNat=q+1 by omega,s,<-List.map_drop,aef];unfold mi;rw[xB bV];cases (List.drop (q+1) l).any (λx=>decide ((dx p x:Int)=(dx p l[q]:Int)))<;>simp
   subst m;by_cases D:f.getD q al=ab\/mi p l q=ab
   ·rw[bS D];rw[bg D] at b;refine b1 (ag (bq r) (ag (dU ⟨O,O⟩ ab) (ag (K q w) ?_)));rw[dh];have P:(ig p l q).length<=12:=by unfold ig;rw[dH,Bm bV];exact sg G H bV
    refine ad.loop (λz:List Bool×Int=> ∃k:Nat,z.2=k/\k<=(ig p l q).length/\z.1=kA (f.set q ab) ((ig p l q).take k)) (λz=>(ig p l q).length-z.2.toNat) ?_ n _ ⟨0,rfl,O,rfl⟩ Z;rintro F ⟨g,z⟩ ⟨k,m,hk,d⟩ t;dsimp only at m d⊢;subst m;refine aV (λS=>?_) λT=>A _ ?_
    ·have o:=bD (O:k<(ig p l q).length);have bw:=NS o;have U:g.length=l.length:=by rw[d,Bp,gf,R]
     refine ad.aQ (λz=>z=kA (f.set q ab) ((ig p l q).take (k+1))) (λSh B=>ag (bq o) (aV (λe=>?_) λe=>B _ ?_)) λz m=>?_
     ·obtain⟨y,V,_⟩:=pk (l:=g) e O;refine ag V (ag (dU ⟨e,O⟩ ab) (B _ ?_));rw[fQ o,A1,bg e,d]
     ·rw[fQ o,A1,be e,d]
     subst m;rw[bf O];exact t _ ⟨k+1,Z,O,rfl⟩ Z
    have e:k=(ig p l q).length:=O
    rw[d,e,eb,b]
   rw[bR D];rw[be D] at b;exact bW (A _ b.symm)
  subst m;rw[bf O];exact I _ ⟨j+1,Z,O,rfl⟩ Z
 have e:j=l.length:=O
 rw[C,e]
def sp(p:Prog)(l:List cO)(q k:Nat):Bool:= !((l.take k).drop (q+1)).any λx=>decide ((dx p x:Int)=o7 p l q)
theorem XN{k:Nat}(h:q<k)(a:l[k]? =aa b):sp p l q (k+1)=(sp p l q k&& !decide ((dx p b:Int)=o7 p l q)):=by have c:=(d6.1 a).1;unfold sp;rw[fQ a,Kt (by rw[c8];omega),tY];simp
theorem T4(ca:7810000<=n)(hp:jw p):DN n p=aa (if b9 p=ab then p9 (kV p (bL p.parts)) else []):=by
 refine ad.eq ?_;unfold DN;refine ag (iO O hp) ?_;cases M:b9 p with
 |false=>exact ad.some rfl
 |true=>
  have q8:=(ep M).2.2.2.2;have S: ∀x∈bL p.parts,gG p x:=λx hx=>iT hx;have T:(l8 p).length=(bL p.parts).length:=by unfold l8;rw[dH]
  have r: ∀(i:Nat) x,(bL p.parts)[i]? =aa x->aB (l8 p) (i:Int)=aa ⟨rc p x,(dx p x:Int)⟩:=λi x h=>bq (lg h);have U:=fun(i:Nat) h=>Xe ca M (i:=i) h;refine b1 (ag (Gw ca M) ?_);rw[T,bg rfl];generalize l8 p=u at*;generalize vr:bL p.parts=l at*;refine ag (Io (n:=(l.length:Int)) (x:=al) O) ?_;rw[dh,bf O];refine ad.loop (λz:List Bool×Int=> ∃j:Nat,z.2=(l.length:Int)-1-j/\j<=l.length/\z.1=kU p l j) (λz=>(z.2+1).toNat) ?_ n _ ⟨0,Z,O,rfl⟩ Z;rintro C ⟨f,z⟩ ⟨j,a,hj,N⟩ b6;dsimp only at a N⊢;refine aV (λh0=>?_) λh0=>?_
  ·obtain⟨q,dr⟩: ∃q,l.length-1-j=q:=⟨_,rfl⟩
   have V:z=(q:Int):=O
   subst V;have Y:q<l.length:=O
   have ag8:f.length=l.length:=by rw[N,tK]
   have bV:=bD Y;have D:=bD (O:q<f.length);have H:f.getD q al=f[q]:=by rw[fa,D];rfl
   have s:=MH p l j q dr;rw[<-N] at s;have K: ∀y:Int,y=(q:Int)-1->ad (C (kU p l (j+1),y)) _:=λy hy=>b6 _ ⟨j+1,Z,O,rfl⟩ Z;have gM:wr ((q:Int)+1)=((q+1:Nat):Int):=by rw[bf O];omega
   have ak3:wr ((q:Int)-1)=(q:Int)-1:=bf O;rw[gM,ak3];refine ad.loop (λz:Bool×Int=> ∃k:Nat,z.2=k/\q<k/\k<=l.length/\z.1=sp p l q k) (λz=>l.length-z.2.toNat) ?_ n _ ⟨q+1,rfl,O,O,?_⟩ Z
   ·rintro P ⟨b,z⟩ ⟨k,a,ahL,hk,bw⟩ vC;dsimp only at a bw⊢;subst a;refine aV (λhlt=>?_) λkJ=>?_
    ·have m:=bD (O:k<l.length);have L:=XN (p:=p) ahL m;refine ad.aQ (λz=>z=sp p l q (k+1)) (λSe A=>?_) λz a=>?_
     ·cases Q:b with
      |false=>exact b1 (A _ (by rw[L,<-bw,Q];rfl))
      |true=>
       refine bW (ag (r _ _ m) (ag (r _ _ bV) (A _ ?_)));rw[L,<-bw,Q,xB bV];rfl
     subst a;rw[bf O];exact vC _ ⟨k+1,Z,O,O,rfl⟩ Z
    have e:k=l.length:=O
    have Jt:b=mi p l q:=by rw[bw,e];unfold sp mi;rw[eb]
    refine ad.aQ (λz=>z=f.set q (f.getD q al||mi p l q)) (λais c=>ag (bq D) ?_) λz a=>?_
    ·rw[H] at c;cases R:f[q] with
     |true=>
      rw[R] at c;refine bW (ag (dU ⟨O,O⟩ ab) (c _ ?_));rw[dh];rfl
     |false=>
      rw[R] at c;refine b1 (ag (dU ⟨O,O⟩ b) (c _ ?_));rw[dh,Jt];rfl
    subst a;have hrl:=sg M S bV;by_cases G:f.getD q al=ab\/mi p l q=ab
    ·rw[bg G] at s;have F:(f.getD q al||mi p l q)=ab:=by rcases G with h|h<;>rw[h]<;>simp
     rw[F];have ahX:(ig p l q).length=(rc p l[q]).length:=by unfold ig;rw[dH,Bm bV]
     refine ad.loop (λz:List Bool×Int=> ∃k:Nat,z.2=k/\k<=(rc p l[q]).length/\z.1=kA (f.set q ab) ((ig p l q).take k)) (λz=>(rc p l[q]).length-z.2.toNat) ?_ n _ ⟨0,rfl,O,rfl⟩ Z;rintro w ⟨g,z⟩ ⟨k,a,hk,o⟩ W;dsimp only at a o⊢;subst a;have aj1:g.length=l.length:=by rw[o,Bp,gf,ag8]
     have X:=bD (O:q<g.length);have hgt:g[q]=ab:=by
      have t:g.getD q al=ab:=by
       rw[o,N4 (by rw[gf];omega),N9,bg ⟨rfl,O⟩];exact .inl rfl
      rwa [fa,X] at t
     refine ad.aQ (λz=>z=aj (k<(rc p l[q]).length)) (λJ0 d=>ag (r _ _ bV) (aV (λe=>ag (bq X) (d _ ?_)) λe=>d _ ?_)) λz a=>?_
     ·dsimp only at e;rw[hgt,bS O]
     ·dsimp only at e;rw[bR O]
     subst a;refine aV (λe=>?_) λe=>?_
     ·have v:=bD e;have m:(ig p l q)[k]? =aa (jd p l (rc p l[q])[k] q):=by unfold ig;rw[Bm bV];exact lg v
      have bw:=NS m;refine ad.aQ (λz=>z=kA (f.set q ab) ((ig p l q).take (k+1))) (λSh E=>ag (r _ _ bV) (ag (bq v) (ag (U q O _) (aV (λe=>?_) λe=>E _ ?_)))) λz a=>?_
      ·obtain⟨y,hy,_⟩:=pk (l:=g) e O;refine ag hy (ag (dU ⟨e,O⟩ ab) (E _ ?_));rw[fQ m,A1,bg e,o]
      ·rw[fQ m,A1,be e,o]
      subst a;rw[bf O];exact W _ ⟨k+1,Z,O,rfl⟩ Z
     have e2:k=(ig p l q).length:=O
     rw[o,e2,eb,<-s];exact K _ rfl
    rw[be G] at s;have F:(f.getD q al||mi p l q)=al:=by
     cases t:f.getD q al with
     |true=>exact br (.inl t) G
     |false=>
      cases h2:mi p l q with
      |true=>exact br (.inr h2) G
      |false=>rfl
    have B:f[q]=al:=by
     rw[<-H];cases t:f.getD q al with
     |true=>exact br (.inl t) G
     |false=>rfl
    have I:f.set q al=f:=by
     have h:=List.set_getElem_self (as:=f) (i:=q) O
     rwa [B] at h
    rw[F,I];refine ad.loop (λz:List Bool×Int=>z=(f,0)) (λ_=>0) ?_ n _ rfl O;rintro w z rfl W;dsimp only;refine ad.aQ (λz=>z=al) (λJ0 d=>ag (r _ _ bV) (ad.cond (λ_=>ag (bq D) (d _ B)) λ_=>d _ rfl)) λz a=>?_;subst a;refine b1 ?_;rw[<-s];exact K _ rfl
   dsimp only;unfold sp;rw[List.drop_of_length_le (by rw[c8];omega)];rfl
  have e:j=l.length:=O
  rw[N,e];exact ag (Lx (by rw[tK];omega) (by rw[tK];omega)) (ad.some rfl)
theorem GW(a:l.length<=120):(gv p l l.length).length<=15000:=by have b:=Al p l l.length;have c:l.length*l.length<=120*120:=nW a a;omega
def kS{k:Type}(p:k->k->Bool):List k->List k->Bool
 | [],[]=>ab
 |a::as,b::c=>p a b&&kS p as c
 |_,_=>al
theorem Gv{k:Type}{p:k->k->Bool}: ∀{a b:List k},kS p a b=ab->a.length=b.length
 | [],[],_=>rfl
 |a::as,b::c,h=>by
  simp only[kS,cB] at h;simp[Gv h.2]
 | [],b::c,h=>by cases h
 |a::as,[],h=>by cases h
theorem GL{f:k->k->Option Bool}{p:k->k->Bool}{a b:List k}(s: ∀x∈a,∀y∈b,f x y=aa (p x y))(H:a.length<n)(K:a.length<=500000000):
  (bif !decide ((a.length:Int)=(b.length:Int)) then(aa al) else(bA (λd (e:Int)=>bif aj (e<(a.length:Int)) then(bI (aB a e) λw=>bI (aB b e) λz=>bI (f w z) λA=>bif !A then(aa al) else(d (wr (e+1)))) else(aa ab)) n 0))=aa (kS p a b):=by
 refine ad.eq (dV (λh=>ad.some ?_) λh=>?_)
 ·cases c:kS p a b with
  |false=>rfl
  |true=>exact br (by rw[Gv c]) h
 refine ad.loop (λx:Int=> ∃i:Nat,x=i/\i<=a.length/\kS p (a.drop i) (b.drop i)=kS p a b) (λx=>a.length-x.toNat) ?_ n 0 ⟨0,rfl,O,rfl⟩ O;rintro l x ⟨i,rfl,L,c⟩ B;refine aV (λC=>?_) λD=>ad.some ?_
 ·have m:i<a.length:=O
  have o:i<b.length:=O
  have q:=bD m;have bw:=bD o;refine ag (bq q) (ag (bq bw) (ag (s _ (bX q) _ (bX bw)) ?_));rw[km m,km o] at c;simp only[kS] at c;cases r:p a[i] b[i] with
  |false=>rw[r] at c;exact bW (ad.some c)
  |true=>
   rw[r,gg] at c;refine b1 ?_;rw[bf O];exact B _ ⟨i+1,O,O,c⟩ O
 have F:a.drop i=[]:=jN O;have G:b.drop i=[]:=jN O;rw[F,G] at c;exact c
theorem Nx{a b:List Int}(B:a.length<n)(C:a.length<=500000000):
  (bif !decide ((a.length:Int)=(b.length:Int)) then(aa al) else(bA (λc (d:Int)=>bif aj (d<(a.length:Int)) then(bI (aB a d) λo=>bI (aB b d) λp=>bif !decide (o=p) then(aa al) else(c (wr (d+1)))) else(aa ab)) n 0))=aa (aj (a=b)):=by
 refine ad.eq (dV (λh=>ad.some ?_) λh=>?_)
 ·exact(bR λe=>h (by rw[e])).symm
 refine ad.loop (λx:Int=> ∃i:Nat,x=i/\i<=a.length/\a.take i=b.take i) (λx=>a.length-x.toNat) ?_ n 0 ⟨0,rfl,O,rfl⟩ O;rintro k x ⟨i,rfl,D,q⟩ r;refine aV (λs=>?_) λw=>ad.some ?_
 ·have y:i<a.length:=O
  have z:i<b.length:=O
  have m:=bD y;have bw:=bD z;refine ag (bq m) (ag (bq bw) ?_);refine dV (λl=>ad.some ?_) λA=>?_
  ·exact(bR λe=>l (by subst e;rfl)).symm
  rw[bf O];exact r _ ⟨i+1,O,O,by rw[fQ m,fQ bw,q,A]⟩ O
 have F:a.take i=a:=jM O
 grind
theorem Vw{a b:List Int}(c:a.length<n)(d:a.length<=500000000):EG n a b=aa (aj (a=b)):=by unfold EG;exact Nx c d
theorem LR{a b:List Int}(c:a.length<n)(d:a.length<=500000000):xK n a b=aa (aj (a=b)):=by unfold xK;exact Nx c d
theorem U8(k:5500000<=n){a b:aE}(d:iu a):oD n a b=aa (uW a b):=by unfold iu at d;unfold oD uW;have h:=Vw (n:=n) (a:=a.aK) (b:=b.aK) O O;refine ad.eq (ad.aQ (λz=>z=(aj (a.aK=b.aK)&&aj (a.const=b.const))) (λj c=>ag h (ad.cond (λe=>c _ (by rw[e];rfl)) λe=>c _ (by rw[e];rfl))) λz i=>ad.some i)
theorem U5(k:5500000<=n){a b:aE}(d:iu a):zo n a b=aa (uW a b):=by unfold iu at d;unfold zo uW;have h:=LR (n:=n) (a:=a.aK) (b:=b.aK) O O;refine ad.eq (ad.aQ (λz=>z=(aj (a.aK=b.aK)&&aj (a.const=b.const))) (λj c=>ad.cond (λe=>ag h (c _ (by rw[e,Bool.and_true]))) λe=>c _ (by rw[e,kn])) λz i=>ad.some i)
theorem FA: ∀a b:List aE,kS uW a b=qn a b
 | [],[]=>rfl
 |a::as,b::c=>by simp only[kS,qn,FA as c]
 | [],b::c=>rfl
 |a::as,[]=>rfl
theorem Lb(h:5500000<=n){a b:List aE}(c:jY a):yZ n a b (λd e=>oD n d e)=aa (qn a b):=by unfold yZ;rw[<-FA];exact GL (f:=λd e=>oD n d e) (λx i y _=>U8 h (c.2 x i)) (by have:=c.1;omega) (by have:=c.1;omega)
theorem K9(d:5500000<=n){a b:List aE}(c:jY a):zl n a b=aa (qn a b):=by unfold zl;rw[<-FA];exact GL (f:=λe h=>zo n e h) (λx i y _=>U5 d (c.2 x i)) (by have:=c.1;omega) (by have:=c.1;omega)
end Go.Lift
