/- Tools. -/
import Derived.Test.YtlbojjldejlgaaaGreatXLiftLaw
set_option maxRecDepth 110000000
set_option linter.unusedVariables false
namespace Go.Lift
open Go
abbrev N:Nat:=110000000
section
def dot:List Int->List Int->Int
 |c::cs,x::xs=>c*x+dot cs xs
 |_,_=>0
def ew(m:Int)(x:Int):Prop:= -m<=x/\x<=m
variable {a:aH}{b c x d aG v M:Int}{i k n:Nat}{p l:List Int}{R:Type}{A B:Option R}{o:List Loop}{s:List UInt8}{Q:R->Prop}
theorem zM{a:Int}(m:0<=a)(n:0<=b)(i:ew a c)(l:ew b x):ew (a*b) (c*x):=by
 obtain⟨o,p⟩:=i;obtain⟨q,r⟩:=l;constructor
 ·have h:=mg (O:0<=a+c) (O:0<=b+x);have k:=mg (O:0<=a-c) (O:0<=b-x);have d:(a+c)*(b+x)=a*b+a*x+c*b+c*x:=by rw[Int.add_mul,Int.mul_add,Int.mul_add];omega
  have e:(a-c)*(b-x)=a*b-a*x-c*b+c*x:=by rw[Int.sub_mul,Int.mul_sub,Int.mul_sub];omega
  rw[d] at h;rw[e] at k;omega
 have h:=mg (O:0<=a+c) (O:0<=b-x);have k:=mg (O:0<=a-c) (O:0<=b+x);have d:(a+c)*(b-x)=a*b-a*x+c*b-c*x:=by rw[Int.add_mul,Int.mul_sub,Int.mul_sub];omega
 have e:(a-c)*(b+x)=a*b+a*x-c*b-c*x:=by rw[Int.sub_mul,Int.mul_add,Int.mul_add];omega
 rw[d] at h;rw[e] at k;omega
theorem zb(a:List Int):dot a []=0:=by cases a<;>rfl
theorem ED: ∀{cs a:List Int} {c x:Int},cs[a.length]? =some c->dot cs (a++[x])=dot cs a+c*x
 | [],a,c,x,h=>by simp at h
 |d::cs,[],c,x,h=>by simp at h;subst h;simp[dot,zb]
 |d::cs,y::a,c,x,h=>by
  have h:cs[a.length]? =some c:=by simpa using h
  simp only[List.cons_append,dot];rw[ED h];omega
theorem EC{d e:List Int}(b:d[i]? =some c)(a:e[i]? =some x):dot d (e.take (i+1))=dot d (e.take i)+c*x:=by have aG:=(bt.1 a).1;rw[eG,a];exact ED (by simpa[Nat.min_eq_left (Nat.le_of_lt aG)] using b)
theorem z7{M:Int}(a:0<=M): ∀{cs xs:List Int},(∀c∈cs,ew 9 c)->(∀x∈xs,ew M x)->ew (9*M*xs.length) (dot cs xs)
 | [],xs,_,_=>by
  have:0<=9*M*(xs.length:Int):=mg O O;simp only[dot,ew];omega
 |d::cs,[],_,_=>by simp[dot,ew]
 |d::cs,y::xs,b,i=>by
  have k:=z7 a (cs:=cs) (xs:=xs) (λc h=>b c (by simp[h])) λx h=>i x (by simp[h]);have l:=zM O a (b d aY) (i y aY);have e:9*M*((y::xs).length:Int)=9*M*(xs.length:Int)+9*M:=by simp[Int.mul_add]
  rw[e];simp only[dot,ew] at*;omega
def cY(a b:Int):List Int:=(List.range (b-a).toNat).map (fun(i:Nat)=>a+(i:Int))
theorem Ru{a:Int}:v∈cY a aG↔a<=v/\v<aG:=by
 simp only[cY,List.mem_map,List.mem_range];constructor
 ·rintro⟨i,aG,rfl⟩;omega
 intro h;exact⟨(v-a).toNat,O,O⟩
theorem jk{a:Int}(h:b<=a):cY a b=[]:=by unfold cY;rw[show(b-a).toNat=0 by omega];rfl
theorem oY{a:Int}(h:b<=a):cY b (a+1)=cY b a++[a]:=by unfold cY;rw[show(a+1-b).toNat=(a-b).toNat+1 by omega,pf,jy];simp;omega
theorem xd{a:Int}(b:a<=v)(c:v<aG):cY a aG=cY a v++v::cY (v+1) aG:=by
 obtain⟨k,d⟩: ∃k:Nat,aG=v+1+k:=⟨(aG-v-1).toNat,O⟩
 subst d;clear c;induction k with
 |zero=>
  rw[show v+1+((0:Nat):Int)=v+1 by omega,oY b,jk (fV _)]
 |succ k e=>
  rw[show v+1+((k+1:Nat):Int)=v+1+(k:Int)+1 by omega,oY O,e,oY O];simp
theorem uw{k:Type}{f:k->Option Bool}{p:k->Bool}{l:List k}(v: ∀x∈l,f x=some (p x))(F:l.length<n)(w:l.length<=500000000):
  ∃r:Int,a8 (λa (b:Int)=>bif decide (b<(l.length:Int)) then(Option.bind (aD l b) λd=>Option.bind (f d) λe=>bif e then(some b) else(a (wr (b+1)))) else(some (-1))) n 0=some r/\decide (0<=r)=l.any p:=by
 suffices h:ah (a8 (λa (b:Int)=>bif decide (b<(l.length:Int)) then(Option.bind (aD l b) λd=>Option.bind (f d) λe=>bif e then(some b) else(a (wr (b+1)))) else(some (-1))) n 0) (λr=>decide (0<=r)=l.any p) by exact h
 refine ah.loop (λx:Int=>0<=x/\x<=l.length/\(l.take x.toNat).any p=false) (λx:Int=>l.length-x.toNat) ?_ n 0 ⟨O,O,aY⟩ bY;rintro i x ⟨s,G,m⟩ z;refine bb (λo=>?_) λA=>?_
 ·obtain⟨y,B,c⟩:=rM s o;have hm:=bB c;refine ai B (ai (v y hm) (ah.cond (λC=>ah.some ?_) λq=>?_))
  ·rw[show l.any p=true from nJ.2 ⟨y,hm,C⟩];simp[s]
  rw[bd O];refine z _ ⟨O,O,?_⟩ O;rw[show(x+1).toNat=x.toNat+1 by omega,eG,c];simp[m,q]
 refine ah.some ?_;have D:x.toNat=l.length:=O
 rw[D,dA] at m;rw[m];simp
theorem BM{f:Int->Option Bool}{p:Int->Bool}(b: ∀x∈l,f x=some (p x))(c:l.length<n)(a:l.length<=500000000):lM n l f=some (l.any p):=by obtain⟨r,d,e⟩:=uw b c a;unfold lM r9;rw[d,<-e];rfl
theorem vE{f:aH->Option Bool}{p:aH->Bool}{l:List aH}(b: ∀x∈l,f x=some (p x))(c:l.length<n)(a:l.length<=500000000):oh n l f=some (l.any p):=by obtain⟨r,d,e⟩:=uw b c a;unfold oh Bg;rw[d,<-e];rfl
theorem K6{f:Stmt->Option Bool}{p:Stmt->Bool}{l:List Stmt}(b: ∀x∈l,f x=some (p x))(c:l.length<n)(a:l.length<=500000000):vk n l f=some (l.any p):=by obtain⟨r,d,e⟩:=uw b c a;unfold vk Bm;rw[d,<-e];rfl
theorem J2{f:bR->Option Bool}{p:bR->Bool}{l:List bR}(b: ∀x∈l,f x=some (p x))(c:l.length<n)(a:l.length<=500000000):vd n l f=some (l.any p):=by obtain⟨r,d,e⟩:=uw b c a;unfold vd Bh;rw[d,<-e];rfl
theorem l5{k:Type}{l:List k}{p:Nat->k->Bool}{Q:Bool->Prop}{m:(Int->Option Bool)->Int->Option Bool}(B:l.length<n)(z:l.length<=500000000)
  (b: ∀a (i:Nat) x,l[i]? =some x->(p i x=true->ah (a ((i:Int)+1)) Q)->(p i x=false->Q false)->ah (m a (i:Int)) Q)
  (d: ∀a,(∀(i:Nat) x,l[i]? =some x->p i x=true)->ah (m a (l.length:Int)) Q) (e:(∃(i:Nat) (x:k),l[i]? =some x/\p i x=false)->Q false):ah (a8 m n 0) Q:=by
 refine ah.loop (λx:Int=> ∃i:Nat,x=i/\i<=l.length/\ ∀(j:Nat) y,j<i->l[j]? =some y->p j y=true) (λx:Int=>l.length-x.toNat) ?_ n 0 ⟨0,rfl,O,λj y h=>O⟩ bY;rintro a x ⟨i,rfl,C,w⟩ A;by_cases o:i<l.length
 ·have q:=bg o;refine b a i _ q (λr=>A _ ⟨i+1,O,O,λj y D c=>?_⟩ O) λr=>e ⟨i,_,q,r⟩;by_cases s:j=i
  ·subst s;rw[q] at c;cases c;exact r
  exact w j y O c
 have v:i=l.length:=O
 subst v;exact d a λj y c=>w j y (bt.1 c).1 c
def cX(a:aH):Bool:=decide (a.ao.length=4)&&(decide (-99<=a.const/\a.const<=99)&&a.ao.all λc=>decide (-9<=c/\c<=9))
theorem iG(h:cX a=true):a.ao.length=4/\ew 99 a.const/\ ∀c∈a.ao,ew 9 c:=by simp only[cX,Bool.and_eq_true,decide_eq_true_eq,List.all_eq_true] at h;exact⟨h.1,h.2.1,h.2.2⟩
theorem jK(n:Nat)(x a b:Int):fI n x a b=some (decide (a<=x/\x<=b)):=by unfold fI;by_cases c:a<=x<;>by_cases d:x<=b<;>simp[aW,c,d]
theorem HY(i:5500000<=n)(a:aH)(k:a.ao.length<=1100000):ql n a=some (cX a):=by
 have h: ∀x∈a.ao,r' n x=some (!decide (-9<=x/\x<=9)):=λx _=>by unfold r';rw[jK];rfl
 have bj:=BM (n:=n) h O O;unfold ql yj;rw[jK];simp only[aW,Option.bind];rw[bj];unfold cX;have e:(a.ao.any λx=> !decide (-9<=x/\x<=9))= !(a.ao.all λc=>decide (-9<=c/\c<=9)):=by
  rw[pd];simp
 rw[e];by_cases d:a.ao.length=4
 ·rw[bP (show(a.ao.length:Int)=4 by omega),bP d];generalize decide (-99<=a.const/\a.const<=99)=b;cases b<;>simp
 rw[bA (show¬(a.ao.length:Int)=4 by omega),bA d];rfl
theorem BU(n:Nat)(x m:Int)(c:0<=m/\m<=1000000000):qA n x m=some (decide (-m<=x/\x<=m)):=by
 unfold qA;rw[bd O];by_cases a: -m<=x<;>by_cases b:x<=m
 ·simp[aW,a,b]
 ·simp[aW,a,b]
 ·simp[aW,a,b]
 simp[aW,a,b]
theorem Bl(w:5500000<=n)(a:aH)(y:a.ao.length<=1100000):qi n a=some (cX a):=by
 refine ah.eq ?_;unfold qi;refine l5 (l:=a.ao) (p:=λ_ c=>decide (-9<=c/\c<=9)) O O (λb i x d o q=>?_) (λb k=>?_) (λ⟨i,x,d,m⟩=>?_)
 ·rw[bP (show(i:Int)<(a.ao.length:Int) by have:=(bt.1 d).1;omega)];refine ai (bw d) (ai (BU n x 9 O) ?_);have aG:=(bt.1 d).1;cases m:decide (-9<=x/\x<=9) with
  |true=>show ah (b _) _;rw[bd O];exact o m
  |false=>exact ah.some (q m)
 ·rw[bA (show¬(a.ao.length:Int)<(a.ao.length:Int) by omega)];have e:a.ao.all (λc=>decide (-9<=c/\c<=9))=true:=fG.2 λc s=>by obtain⟨i,aG⟩:=im s;exact k i c aG
  refine ah.cond (λh=>(by cases h)) λ_=>?_;unfold cX;rw[e];refine ah.aW (λz:Bool=>z=(decide (a.ao.length=4)&&(decide (-99<=a.const/\a.const<=99)&&true))) (λj r=>?_) λz v=>ah.some v;refine bb (λh=>ai (BU n a.const 99 O) (r _ ?_)) λh=>r _ ?_
  ·rw[bP (O:a.ao.length=4)];simp
  rw[bA (show¬a.ao.length=4 by omega)];rfl
 unfold cX;have e:a.ao.all (λc=>decide (-9<=c/\c<=9))=false:=hz.2 ⟨x,bB d,by rw[m];simp⟩;rw[e];simp
def eM(a:aH)(p:List Int):Int:=a.const+dot a.ao p
def wv(M:Int)(p:List Int):Prop:= ∀x∈p,ew M x
theorem xl(b:cX a=true)(k:p.length<=4)(c:0<=M/\M<=1000000000)(d:wv M p)(i:Nat)(l:i<=p.length):ew 1000000000000 (a.const+dot a.ao (p.take i)):=by
 obtain⟨m,n,e⟩:=iG b;have o:=z7 (M:=M) c.1 (cs:=a.ao) (xs:=p.take i) e λx h=>d x (hv h);have q:(p.take i).length<=4:=bY
 have r:9*M*((p.take i).length:Int)<=9*M*4:=Int.mul_le_mul_of_nonneg_left O O;simp only[ew] at*;omega
theorem OL(C:5500000<=n)(e:cX a=true)(q:p.length<=4)(h:0<=M/\M<=1000000000)(l:wv M p):kY n a p=some (eM a p):=by
 obtain⟨D,F,v⟩:=iG e;refine ah.eq ?_;unfold kY;refine ah.loop (λx:Int×Int=> ∃i:Nat,x.2=i/\i<=p.length/\x.1=a.const+dot a.ao (p.take i)) (λx=>p.length-x.2.toNat) ?_ n _ ⟨0,rfl,O,by simp[zb]⟩ bY;rintro m ⟨x,k⟩ ⟨i,r,w,o⟩ y;dsimp only at r o⊢;subst r;refine bb (λd=>?_) λz=>ah.some ?_
 ·have d:i<p.length:=O
  have b:=bg d;have c:=bg (O:i<a.ao.length);have cy:=EC c b;have A:=xl e q h l i w;have s:=xl e q h l (i+1) O;rw[cy] at s;have B:=zM O h.1 (v _ (bB c)) (l _ (bB b));refine ai (bw b) (ai (bw c) ?_);simp only[ew] at A s B;rw[bd (n:=a.ao[i]*p[i]) O,bd O,bd O];refine y _ ⟨i+1,Z,O,?_⟩ Z;dsimp only;rw[cy,o];omega
 have:i=p.length:=O
 rw[o,this,dA];rfl
theorem N0(H:5500000<=n)(d:cX a=true)(r:p.length<=4)(e:0<=M/\M<=1000000000)(l:wv M p):k' n a p=some (eM a p):=by
 obtain⟨K,L,y⟩:=iG d;refine ah.eq ?_;unfold k';refine ah.loop (λx:Int×Int=> ∃i:Nat,x.2=i/\i<=p.length/\x.1=a.const+dot a.ao (p.take i)) (λx=>p.length-x.2.toNat) ?_ n _ ⟨0,rfl,O,by simp[zb]⟩ bY;rintro m ⟨x,k⟩ ⟨i,s,A,o⟩ B;dsimp only at s o⊢;subst s;refine ah.aW (λz=>z=decide (i<p.length)) (λj v=>bb (λh=>v _ ?_) λh=>v _ ?_) λz C=>?_
 ·rw[bP (O:i<p.length),bP (show(i:Int)<(a.ao.length:Int) by omega)]
 ·rw[bA (show¬i<p.length by omega)]
 subst C;refine bb (λq=>?_) λD=>ah.some ?_
 ·have b:=bg q;have c:=bg (O:i<a.ao.length);have cy:=EC c b;have F:=xl d r e l i A;have w:=xl d r e l (i+1) O;rw[cy] at w;have G:=zM O e.1 (y _ (bB c)) (l _ (bB b));refine ai (bw c) (ai (bw b) ?_);simp only[ew] at F w G;rw[bd (n:=a.ao[i]*p[i]) O,bd O,bd O];refine B _ ⟨i+1,Z,O,?_⟩ Z;dsimp only;rw[cy,o];omega
 have:i=p.length:=O
 rw[o,this,dA];rfl
theorem dw(h:ah A Q):ah (bif true then A else B) Q:=h
theorem cx(h:ah B Q):ah (bif false then A else B) Q:=h
def hh:List Int->Nat
 | []=>0
 |c::cs=>if hh cs=0 then(if c=0 then 0 else 1) else hh cs+1
theorem C0: ∀(l:List Int) (c:Int),hh (l++[c])=if c=0 then hh l else l.length+1
 | [],c=>by simp[hh]
 |d::l,c=>by
  have b:=C0 l c;simp only[List.cons_append,hh,b];by_cases a:c=0
  ·simp[a]
  simp[a]
theorem CZ(h:l[i]? =some c):hh (l.take (i+1))=if c=0 then hh (l.take i) else i+1:=by have aG:=(bt.1 h).1;rw[eG,h];show hh (l.take i++[c])=_;rw[C0,dz,Nat.min_eq_left (Nat.le_of_lt aG)]
def ko(a:aH):Prop:=a.ao.length<=1100000
def iW(l:List aH):Prop:=l.length<=1100000/\ ∀a∈l,ko a
theorem Cg(r:5500000<=n)(h:ko a):qI n a=some (hh a.ao:Int):=by
 have h:a.ao.length<=1100000:=h;refine ah.eq ?_;unfold qI;refine ah.loop (λx:Int×Int=> ∃i:Nat,x.2=i/\i<=a.ao.length/\x.1=(hh (a.ao.take i):Int)) (λx=>a.ao.length-x.2.toNat) ?_ n _ ⟨0,rfl,O,by simp[hh]⟩ bY;rintro c ⟨x,k⟩ ⟨i,l,s,d⟩ o;dsimp only at l d⊢;subst l;refine bb (λb=>?_) λp=>ah.some ?_
 ·have b:i<a.ao.length:=O
  have bj:=bg b;have cy:=CZ bj;refine ah.aW (λz:Int=>z=(hh (a.ao.take (i+1)):Int)) (λj m=>ai (bw bj) (dL (λe=>m _ ?_) λe=>m _ ?_)) λz q=>?_
  ·rw[cy,bp e,bd O];omega
  ·rw[cy,bh e,d]
  rw[bd O];exact o _ ⟨i+1,Z,O,q⟩ Z
 have:i=a.ao.length:=O
 rw[d,this,dA]
theorem Di(q:5500000<=n)(o:ko a):qg n a=some (hh a.ao:Int):=by
 have o:a.ao.length<=1100000:=o;refine ah.eq ?_;unfold qg;refine ah.loop (λx:Int=> ∃i:Nat,x=i/\i<=a.ao.length/\hh a.ao=hh (a.ao.take i)) (λx=>x.toNat) ?_ n _ ⟨a.ao.length,rfl,O,by rw[dA]⟩ bY;rintro b x ⟨i,rfl,r,c⟩ p;cases i with
 |zero=>
  refine ah.aW (λz=>z=false) (λj d=>bb (λh=>a6 h (by decide)) λh=>d _ rfl) λz k=>?_;subst k;exact ah.some (by rw[c];rfl)
 |succ i=>
  have l:i<a.ao.length:=O
  have bj:=bg l;have cy:=CZ bj;have e:wr (((i+1:Nat):Int)-1)=(i:Int):=by rw[bd O];omega
  rw[e];refine ah.aW (λz=>z=decide (a.ao[i]=0)) (λj d=>bb (λh=>ai (bw bj) (d _ rfl)) λh=>a6 (show(0:Int)<((i+1:Nat):Int) by omega) h) λz k=>?_;subst k;refine bb (λm=>?_) λm=>ah.some ?_
  ·exact p _ ⟨i,rfl,O,by rw[c,cy,bh m]⟩ O
  rw[c,cy,bp m]
def ep(a:aH)(d:Int):Bool:=cX a&&decide ((hh a.ao:Int)<=d)
def ey(l:List aH)(d:Int):Bool:=l.all (λa=>ep a d)&&decide (1<=l.length/\l.length<=2)
theorem vP(a b:Int):decide (a<b)= !decide (b<=a):=by
 by_cases h:a<b
 ·rw[bP h,bA O];rfl
 rw[bA h,bP O];rfl
theorem CT(v:5500000<=n){l:List aH}(A:iW l)(d:Int):tz n l d=some (ey l d):=by
 obtain⟨F,B⟩:=A;refine ah.eq ?_;unfold tz;refine l5 (l:=l) (p:=λ_ a=>ep a d) O O (λb i x k q r=>?_) (λb m=>?_) (λ⟨i,x,k,C⟩=>?_)
 ·have aG:=(bt.1 k).1;have hm:=B x (bB k);rw[bP (show(i:Int)<(l.length:Int) by omega)];refine dw (ah.aW (λz=>z= !ep x d) (λj o=>ai (bw k) (ai (Bl v x hm) ?_)) λz s=>?_)
  ·cases w:cX x with
   |false=>exact o _ (by unfold ep;rw[w];rfl)
   |true=>exact ai (Cg v hm) (o _ (by unfold ep;rw[w,vP];simp))
  subst s;cases y:ep x d with
  |true=>show ah (b _) _;rw[bd O];exact q y
  |false=>exact ah.some (r y)
 ·rw[bA (show¬(l.length:Int)<(l.length:Int) by omega)];have e:l.all (λa=>ep a d)=true:=fG.2 λc D=>by obtain⟨i,aG⟩:=im D;exact m i c aG
  unfold ey;rw[e];refine cx (ah.aW (λz=>z=decide (1<=l.length/\l.length<=2)) (λj o=>bb (λh=>o _ ?_) λh=>o _ ?_) λz s=>ah.some (by rw[s];rfl))
  ·by_cases G:l.length<=2
   ·rw[bP (show(l.length:Int)<=2 by omega),bP O]
   rw[bA (show¬(l.length:Int)<=2 by omega),bA O]
  rw[bA O]
 unfold ey;rw[hz.2 ⟨x,bB k,by rw[C];simp⟩];rfl
theorem Dj(b:5500000<=n)(c:ko a)(d:Int):qt n a d=some (!ep a d):=by
 unfold qt;rw[HY b a c];simp only[aW,Option.bind];cases e:cX a with
 |false=>simp[ep,e]
 |true=>
  rw[Di b c];simp only[ep,e,Bool.not_true,cond_false,Bool.true_and];rw[vP]
theorem BI(n k:Nat):fI n (k:Int) 1 2=some (decide (1<=k/\k<=2)):=by
 rw[jK];congr 1;by_cases h:1<=k/\k<=2
 ·rw[bP h,bP O]
 rw[bA h,bA O]
theorem Jq(b:5500000<=n){l:List aH}(c:iW l)(d:Int):s4 n l d=some (ey l d):=by
 obtain⟨m,h⟩:=c;unfold s4;rw[BI];have bj:=vE (n:=n) (f:=λi=>qt n i d) (p:=λa=> !ep a d) (l:=l) (λx k=>Dj b (h x k) d) O O;simp only[aW,Option.bind];rw[bj];unfold ey;have e:(l.any λa=> !ep a d)= !(l.all λa=>ep a d):=by
  rw[pd];simp
 rw[e];cases decide (1<=l.length/\l.length<=2)<;>simp
def H1{k:Type}(p:Nat->k->Bool)(l:List k):Bool:=l.zipIdx.all λq=>p q.2 q.1
theorem wj{k:Type}{p:Nat->k->Bool}{l:List k}(h: ∀(i:Nat) x,l[i]? =some x->p i x=true):H1 p l=true:=
 fG.2 λq a=>h q.2 q.1 (w3.1 a)
theorem m6{k:Type}{p:Nat->k->Bool}{l:List k}{x:k}(h:l[i]? =some x)(a:p i x=false):H1 p l=false:=
 hz.2 ⟨(x,i),w3.2 h,by rw[a];simp⟩
theorem Cm{k:Type}{p:Nat->k->Bool}{l:List k}(h:H1 p l=true){x:k}(a:l[i]? =some x):p i x=true:=
 fG.1 h (x,i) (w3.2 a)
def iI(a:List Loop):Bool:=H1 (λi l=>ey l.bn (i:Int)&&ey l.aG (i:Int)) a&&decide (a.length<=4)
def pD(a:List Loop):Prop:=a.length<=1100000/\ ∀l∈a,iW l.bn/\iW l.aG
theorem Kd(k:5500000<=n)(h:pD o):wm n o=some (iI o):=by
 obtain⟨B,s⟩:=h;refine ah.eq ?_;unfold wm;refine l5 (l:=o) (p:=λi l=>ey l.bn (i:Int)&&ey l.aG (i:Int)) O O (λa i x b d e=>?_) (λa c=>?_) (λ⟨i,x,b,v⟩=>?_)
 ·have aG:=(bt.1 b).1;obtain⟨w,y⟩:=s x (bB b);rw[bP (show(i:Int)<(o.length:Int) by omega)];refine ai (bw b) (ah.aW (λz=>z= !(ey x.bn (i:Int)&&ey x.aG (i:Int))) (λj m=>ai (Jq k w _) ?_) λz A=>?_)
  ·cases q:ey x.bn (i:Int) with
   |false=>exact m _ (by rw[q];rfl)
   |true=>exact ai (Jq k y _) (m _ (by rw[q];rfl))
  subst A;cases r:(ey x.bn (i:Int)&&ey x.aG (i:Int)) with
  |true=>show ah (a _) _;rw[bd O];exact d r
  |false=>exact ah.some (e r)
 ·rw[bA (show¬(o.length:Int)<(o.length:Int) by omega)];refine ah.some ?_;unfold iI;rw[wj c,iu];exact decide_eq_decide.2 O
 unfold iI;rw[m6 b v];rfl
theorem Ka(r:5500000<=n)(h:pD o):wc n o=some (iI o):=by
 obtain⟨D,y⟩:=h;unfold wc;by_cases s:o.length<=4
 ·rw[bP (show(o.length:Int)<=4 by omega)];refine ah.eq ?_;refine l5 (l:=o) (p:=λi l=>ey l.bn (i:Int)&&ey l.aG (i:Int)) O O (λa i x c m q=>?_) (λa d=>?_) (λ⟨i,x,c,A⟩=>?_)
  ·have aG:=(bt.1 c).1;obtain⟨B,C⟩:=y x (bB c);rw[bP (show(i:Int)<(o.length:Int) by omega)];refine ah.aW (λz=>z=true) (λj b=>dw (b _ rfl)) λz e=>?_;subst e;refine dw (ah.aW (λz=>z= !(ey x.bn (i:Int)&&ey x.aG (i:Int))) (λj b=>ai (bw c) (ai (CT r B _) ?_)) λz e=>?_)
   ·cases v:ey x.bn (i:Int) with
    |false=>exact b _ (by rw[v];rfl)
    |true=>exact ai (CT r C _) (b _ (by rw[v];rfl))
   subst e;cases w:(ey x.bn (i:Int)&&ey x.aG (i:Int)) with
   |true=>show ah (a _) _;rw[bd O];exact m w
   |false=>exact ah.some (q w)
  ·rw[bA (show¬(o.length:Int)<(o.length:Int) by omega)];refine ah.aW (λz=>z=false) (λj b=>cx (b _ rfl)) λz e=>?_;subst e;refine ah.some ?_;unfold iI;rw[wj d,bP s];rfl
  unfold iI;rw[m6 c A];rfl
 obtain⟨k,rfl⟩: ∃k,n=k+1:=⟨n-1,O⟩
 rw[bA (show¬(o.length:Int)<=4 by omega)];unfold iI;rw[bA s,mh];simp only[a8,aW];cases decide ((0:Int)<(o.length:Int))<;>rfl
def j3:List Int->Int
 | []=>0
 |x::a=>a.foldl max x
def lo:List Int->Int
 | []=>0
 |x::a=>a.foldl min x
theorem QW(h:l≠[])(x:Int):j3 (l++[x])=max (j3 l) x:=by
 cases l with
 |nil=>exact a6 rfl h
 |cons a l=>simp[j3,List.foldl_append]
theorem QX(h:l≠[])(x:Int):lo (l++[x])=min (lo l) x:=by
 cases l with
 |nil=>exact a6 rfl h
 |cons a l=>simp[lo,List.foldl_append]
theorem Ge: ∀(l:List Int) (a:Int),a<=l.foldl max a
 | [],a=>fV _
 |x::l,a=>Int.le_trans (Int.le_max_left a x) (Ge l (max a x))
theorem Gf: ∀(l:List Int) (a:Int),l.foldl min a<=a
 | [],a=>fV _
 |x::l,a=>Int.le_trans (Gf l (min a x)) (Int.min_le_left a x)
def jb(l:List aH)(p:List Int):List Int:=l.map λa=>eM a p
def cZ(l:Loop)(p:List Int):Int:=j3 (jb l.bn p)
def dJ(l:Loop)(p:List Int):Int:=lo (jb l.aG p)
def fR(k:Nat)(p:List Int):Prop:=p.length=k/\k<=4/\wv (100*40^k) p
theorem nV(h:k<=4):(0:Int)<=100*40^k/\(100:Int)*40^k<=1000000000:=by
 match k,h with
 |0,_=>decide
 |1,_=>decide
 |2,_=>decide
 |3,_=>decide
 |4,_=>decide
theorem ns{l:List aH}(h:ey l d=true):1<=l.length/\l.length<=2/\ ∀a∈l,cX a=true:=by
 simp only[ey,Bool.and_eq_true,decide_eq_true_eq,List.all_eq_true] at h;refine⟨h.2.1,h.2.2,λa b=>?_⟩
 have:=h.1 a b;simp only[ep,Bool.and_eq_true] at this;exact this.1
theorem FJ(b:cX a=true)(c:fR k p)(d:k<=3): -(40*(100*40^k))<=eM a p/\eM a p<=40*(100*40^k):=by
 obtain⟨m,n,e⟩:=iG b;obtain⟨o,q,h⟩:=c;obtain⟨i,r⟩:=nV (k:=k) O;have s:(100:Int)<=100*40^k:=by
  match k,d with
  |0,_=>decide
  |1,_=>decide
  |2,_=>decide
  |3,_=>decide
 generalize (100*40^k:Int)=M at*;have v:=z7 (M:=M) i (cs:=a.ao) (xs:=p) e λx l=>h x l;have w:9*M*(p.length:Int)<=9*M*3:=Int.mul_le_mul_of_nonneg_left O O;simp only[ew] at*;unfold eM;omega
theorem rP(c:5500000<=n)(d:cX a=true)(b:fR k p):k' n a p=some (eM a p):=
 N0 c d (by have:=b.1;have:=b.2.1;omega) (nV b.2.1) b.2.2
theorem rR(c:5500000<=n)(d:cX a=true)(b:fR k p):kY n a p=some (eM a p):=
 OL c d (by have:=b.1;have:=b.2.1;omega) (nV b.2.1) b.2.2
theorem lf{l:List aH}(h:l[i]? =some a):(jb l p)[i]? =some (eM a p):=by unfold jb;rw[List.getElem?_map,h];rfl
theorem ur(l:List aH)(p:List Int):(jb l p).length=l.length:=dI ..
theorem EJ{k:Type}{l:List k}(h:1<=i)(a:1<=l.length):l.take i≠[]:=by
 intro e
 have:(l.take i).length=0:=by rw[e];rfl
 rw[dz] at this;omega
theorem Fb(h:l[i]? =some x)(a:1<=i):j3 (l.take (i+1))=max (j3 (l.take i)) x:=by have:=(bt.1 h).1;rw[eG,h];exact QW (EJ a O) x
theorem Fe(h:l[i]? =some x)(a:1<=i):lo (l.take (i+1))=min (lo (l.take i)) x:=by have:=(bt.1 h).1;rw[eG,h];exact QX (EJ a O) x
theorem zo(h:l[0]? =some x):j3 (l.take 1)=x:=by
 cases l with
 |nil=>simp at h
 |cons a l=>simp at h;subst h;rfl
theorem zp(h:l[0]? =some x):lo (l.take 1)=x:=by
 cases l with
 |nil=>simp at h
 |cons a l=>simp at h;subst h;rfl
theorem Db(q:5500000<=n){l:Loop}{a:Int}(L:ey l.bn d=true)(Q:ey l.aG a=true)(r:fR k p):te n l p=some (cZ l p,dJ l p):=by
 obtain⟨ay,a2,a3⟩:=ns L;obtain⟨X,f,K⟩:=ns Q;have A:=bg (O:0<l.bn.length);have B:=bg (O:0<l.aG.length);refine ah.eq ?_;unfold te;refine ai (bw (i:=0) A) (ai (rP q (a3 _ (bB A)) r) (ai (bw (i:=0) B) (ai (rP q (K _ (bB B)) r) ?_)));refine ah.loop (λx:Int×Int=> ∃i:Nat,x.2=i/\1<=i/\i<=l.bn.length/\x.1=j3 ((jb l.bn p).take i)) (λx=>l.bn.length-x.2.toNat) ?_ n _ ⟨1,rfl,O,O,(zo (lf A)).symm⟩ Z;rintro C ⟨x,z⟩ ⟨i,b,c,R,s⟩ W;dsimp only at b s⊢;subst b;refine bb (λD=>?_) λF=>?_
 ·have g:=bg (O:i<l.bn.length);have e:=Fb (lf (p:=p) g) c;refine ah.aW (λz=>z=j3 ((jb l.bn p).take (i+1))) (λj o=>ai (bw g) (ai (rP q (a3 _ (bB g)) r) (bb (λh=>o _ ?_) λh=>o _ ?_))) λz b=>?_
  ·rw[e,<-s];omega
  ·rw[e,<-s];omega
  rw[bd O];exact W _ ⟨i+1,Z,O,O,b⟩ Z
 have m:i=l.bn.length:=O
 have G:x=cZ l p:=by rw[s,m,<-ur l.bn p,dA];rfl
 refine ah.loop (λx:Int×Int=> ∃i:Nat,x.2=i/\1<=i/\i<=l.aG.length/\x.1=lo ((jb l.aG p).take i)) (λx=>l.aG.length-x.2.toNat) ?_ n _ ⟨1,rfl,O,O,(zp (lf B)).symm⟩ Z;rintro v ⟨y,z⟩ ⟨i,b,c,R,w⟩ H;dsimp only at b w⊢;subst b;refine bb (λD=>?_) λF=>ah.some ?_
 ·have g:=bg (O:i<l.aG.length);have e:=Fe (lf (p:=p) g) c;refine ah.aW (λz=>z=lo ((jb l.aG p).take (i+1))) (λj o=>ai (bw g) (ai (rP q (K _ (bB g)) r) (bb (λh=>o _ ?_) λh=>o _ ?_))) λz b=>?_
  ·rw[e,<-w];omega
  ·rw[e,<-w];omega
  rw[bd O];exact H _ ⟨i+1,Z,O,O,b⟩ Z
 have m:i=l.aG.length:=O
 rw[G,w,m,<-ur l.aG p,dA];rfl
theorem OJ(e:5500000<=n){l:Loop}{a:Int}(F:ey l.bn d=true)(G:ey l.aG a=true)(h:fR k p):wq n l p=some (cZ l p,dJ l p):=by
 obtain⟨ay,a2,a3⟩:=ns F;obtain⟨L,Q,D⟩:=ns G;have r:=bg (O:0<l.bn.length);have s:=bg (O:0<l.aG.length);refine ah.eq ?_;unfold wq;refine ai (bw (i:=0) r) (ai (rR e (a3 _ (bB r)) h) (ai (bw (i:=0) s) (ai (rR e (D _ (bB s)) h) ?_)));refine ah.loop (λx:Int×Int=> ∃i:Nat,x.2=i/\i<=l.bn.length/\x.1=j3 ((jb l.bn p).take (max i 1))) (λx=>l.bn.length-x.2.toNat) ?_ n _ ⟨0,rfl,O,(zo (lf r)).symm⟩ Z;rintro v ⟨x,z⟩ ⟨i,c,H,m⟩ K;dsimp only at c m⊢;subst c;refine bb (λw=>?_) λA=>?_
 ·have g:=bg (O:i<l.bn.length);refine ai (bw g) (ai (rR e (a3 _ (bB g)) h) ?_);rw[bd O];refine K _ ⟨i+1,Z,O,?_⟩ Z;dsimp only;rw[show max (i+1) 1=i+1 by omega];cases i with
  |zero=>rw[m,show max 0 1=1 by rfl,dm,zo (lf g)];omega
  |succ i=>rw[Fb (lf (p:=p) g) O,m,show max (i+1) 1=i+1 by omega]
 have b:i=l.bn.length:=O
 have B:x=cZ l p:=by rw[m,b,Nat.max_eq_left O,<-ur l.bn p,dA];rfl
 refine ah.loop (λx:Int×Int=> ∃i:Nat,x.2=i/\i<=l.aG.length/\x.1=lo ((jb l.aG p).take (max i 1))) (λx=>l.aG.length-x.2.toNat) ?_ n _ ⟨0,rfl,O,(zp (lf s)).symm⟩ Z;rintro o ⟨y,z⟩ ⟨i,c,H,q⟩ C;dsimp only at c q⊢;subst c;refine bb (λw=>?_) λA=>ah.some ?_
 ·have g:=bg (O:i<l.aG.length);refine ai (bw g) (ai (rR e (D _ (bB g)) h) ?_);rw[bd O];refine C _ ⟨i+1,Z,O,?_⟩ Z;dsimp only;rw[show max (i+1) 1=i+1 by omega];cases i with
  |zero=>rw[q,show max 0 1=1 by rfl,dm,zp (lf g)];omega
  |succ i=>rw[Fe (lf (p:=p) g) O,q,show max (i+1) 1=i+1 by omega]
 have b:i=l.aG.length:=O
 rw[B,q,b,Nat.max_eq_left O,<-ur l.aG p,dA];rfl
theorem uh{l:Loop}(n:ey l.bn d=true)(o:ey l.aG b=true)(e:fR k p)(i:k<=3)(A:cZ l p<=v/\v<dJ l p):fR (k+1) (p++[v]):=by
 obtain⟨ay,a2,a3⟩:=ns n;obtain⟨m,B,r⟩:=ns o;have C: -(40*(100*40^k))<=cZ l p:=by
  cases c:l.bn with
  |nil=>rw[c] at ay;simp at ay
  |cons a as=>
   have:=(FJ (a3 a (by rw[c];simp)) e i).1;unfold cZ jb;rw[c];exact Int.le_trans this (Ge _ _)
 have D:dJ l p<=40*(100*40^k):=by
  cases c:l.aG with
  |nil=>rw[c] at m;simp at m
  |cons a as=>
   have:=(FJ (r a (by rw[c];simp)) e i).2;unfold dJ jb;rw[c];exact Int.le_trans (Gf _ _) this
 obtain⟨s,F,w⟩:=e;have y:(100*40^(k+1):Int)=40*(100*40^k):=by rw[Int.pow_succ];omega
 have q:=(nV (k:=k) O).1;refine⟨by simp[s],O,λx z=>?_⟩;rw[y];rcases eW.1 z with h|h
 ·have:=w x h;simp only[ew] at this⊢;omega
 simp at h;subst h;simp only[ew];omega
def eA:List Loop->List Int->List (List Int)
 | [],p=>[p]
 |l::bD,p=>(cY (cZ l p) (dJ l p)).flatMap λv=>eA bD (p++[v])
def eE:List Loop->List Int->Int
 | [],_=>1
 |l::bD,p=>1+((cY (cZ l p) (dJ l p)).map λv=>eE bD (p++[v])).sum
theorem lp{k:Type}(f:k->Int): ∀(l:List k),(∀x∈l,1<=f x)->(l.length:Int)<=(l.map f).sum
 | [],_=>aY
 |x::l,h=>by have b:=lp f l λy a=>h y (by simp[a]);have c:=h x aY;simp only[List.map_cons,List.sum_cons,List.length_cons];omega
theorem uE: ∀(bD:List Loop) (p:List Int),1<=eE bD p
 | [],p=>fV _
 |l::bD,p=>by have:=lp (λv=>eE bD (p++[v])) (cY (cZ l p) (dJ l p)) λv _=>uE bD _;simp only[eE];omega
def Fit(a:List Loop):Prop:=a.length<=4/\ ∀(i:Nat) l,a[i]? =some l->ey l.bn (i:Int)=true/\ey l.aG (i:Int)=true
theorem uV{nest:List Loop}(h:iI nest=true):Fit nest:=by
 simp only[iI,Bool.and_eq_true,decide_eq_true_eq] at h;refine⟨h.2,λi l a=>?_⟩
 have:=Cm h.1 a;simpa[Bool.and_eq_true] using this
theorem xm{l:Loop}{q:List Loop}(h:o.drop k=l::q):o[k]? =some l/\o.drop (k+1)=q/\k<o.length:=by
 have a:(o.drop k)[0]? =some l:=by rw[h];rfl
 rw[fX,nF] at a;refine⟨a,?_,(bt.1 a).1⟩
 have:(o.drop k).drop 1=q:=by rw[h];rfl
 rwa [List.drop_drop] at this
theorem tW(h:o.drop k=[])(a:k<=o.length):k=o.length:=by
 have:(o.drop k).length=0:=by rw[h];rfl
 rw[ir] at this;omega
theorem kx(p:List Int)(h:p.length<=1100000):app [] p=some p:=by rw[ej bY];rfl
theorem Er(l:List Int)(f:Int->Int)(v:Int):((l++[v]).map f).sum=(l.map f).sum+f v:=aY
theorem Rv{bn:Int}(h:bn<=v):((cY bn v).length:Int)=v-bn:=by unfold cY;simp;omega
theorem Dy{b:List Loop}(B:Fit b): ∀(bD:List Loop) (n k:Nat) (p:List Int) (a:Int),5500000+bD.length<=n->b.drop k=bD->k<=b.length->fR k p->0<=a->a<=1200->
  ah (nl n b p a) (λr=>(eE bD p<=a->r=eE bD p)/\(a<eE bD p->a<r)/\1<=r/\r<=a+1)
 | [],n,k,p,a,K,C,L,m,N,P=>by
  obtain⟨n,rfl⟩: ∃j,n=j+1:=⟨n-1,O⟩
  have S:=tW C L;have o:=m.1;unfold nl;rw[bP (show(p.length:Int)=(b.length:Int) by omega)];exact ah.some ⟨λ_=>rfl,λh=>by simp only[eE] at h;omega,O,O⟩
 |l::bD,n,k,p,a,K,C,L,m,N,P=>by
  obtain⟨n,rfl⟩: ∃j,n=j+1:=⟨n-1,O⟩
  obtain⟨Q,T,d3⟩:=xm C;obtain⟨R,W⟩:=B.2 k l Q;have o:=m.1;have D:k<=3:=by have:=B.1;omega
  simp only[List.length_cons] at K;unfold nl;rw[bA (show¬(p.length:Int)=(b.length:Int) by omega)];refine cx (ai (x:=l) (by rw[o];exact bw Q) (ai (Db O R W m) ?_));let f:Int->Int:=λv=>eE bD (p++[v]);have q: ∀v,1<=f v:=λv=>uE _ _;have U:eE (l::bD) p=1+((cY (cZ l p) (dJ l p)).map f).sum:=rfl;refine ah.loop (λx:Int×Int=>cZ l p<=x.2/\(x.2<=dJ l p\/x.2=cZ l p)/\(1+((cY (cZ l p) x.2).map f).sum<=a->x.1=1+((cY (cZ l p) x.2).map f).sum)/\(a<1+((cY (cZ l p) x.2).map f).sum->a<x.1)/\1<=x.1/\x.1<=a+1)
   (λx=>(a+1-x.1).toNat) ?_ n _ ⟨fV _,.inr rfl,λ_=>by rw[jk (fV _)];rfl,λh=>by rw[jk (fV _)] at h;simp at h;dsimp only;omega,Z,Z⟩ Z
  rintro F ⟨x,v⟩ ⟨A,X,G,H,g,t⟩ V;dsimp only at A X G H g t⊢;refine ah.aW (λz=>z=decide (v<dJ l p/\x<=a)) (λj u=>bb (λh=>u _ ?_) λh=>u _ ?_) λz Y=>?_
  ·by_cases d:x<=a
   ·rw[bP d,bP ⟨h,d⟩]
   rw[bA d,bA λh=>d h.2]
  ·rw[bA λE=>h E.1]
  subst Y;refine bb (λ⟨e,d⟩=>?_) λs=>ah.some ?_
  ·have w:x=1+((cY (cZ l p) v).map f).sum:=G (by apply Int.not_lt.1;intro h;have:=H h;omega);have i:=uh R W m D ⟨A,e⟩;have e1:wr (a-x)=a-x:=by rw[bd O]
   rw[e1];refine ai (kx p O) (ai (ej bY) (jP (Dy B bD n (k+1) (p++[v]) (a-x) O T O i O O) λr ⟨o0,qZ,XL,XM⟩=>?_));have XA:v<dJ l p:=e;have Hn: -1000000000<=v/\v<=1000000000:=by
    have h9:=i.2.2 v aY;have hN:=nV i.2.1;simp only[ew] at h9;omega
   rw[bd (n:=v+1) O,bd (n:=x+r) O];have I:1+((cY (cZ l p) (v+1)).map f).sum=x+f v:=by rw[oY A,Er,w];omega
   refine V _ ⟨Z,.inl Z,?_,?_,Z,Z⟩ Z
   ·dsimp only;rw[I];intro h
    have:r=f v:=o0 (O:f v<=a-x);omega
   dsimp only;rw[I];intro h
   have:a-x<r:=qZ (O:a-x<f v);omega
  have c:1+((cY (cZ l p) v).map f).sum<=eE (l::bD) p/\(dJ l p<=v->1+((cY (cZ l p) v).map f).sum=eE (l::bD) p):=by
   rw[U];by_cases h:v<dJ l p
   ·refine⟨?_,λE=>O⟩;rw[xd A h,jy,List.sum_append,List.map_cons,List.sum_cons]
    have:=lp f (cY (v+1) (dJ l p)) λy _=>q y
    have:=q v;omega
   have:cY (cZ l p) v=cY (cZ l p) (dJ l p):=by
    rcases X with M|M
    ·rw[show v=dJ l p by omega]
    subst M;rw[jk (fV _),jk O]
   rw[this];exact⟨fV _,λ_=>rfl⟩
  refine⟨λh=>?_,λh=>?_,g,t⟩
  ·have d:=G O;rw[d];apply c.2;apply Int.not_lt.1;intro e;exact s ⟨e,O⟩
  apply Int.not_le.1;intro d;have e:dJ l p<=v:=by apply Int.not_lt.1;intro e;exact s ⟨e,d⟩
  have:=H (by rw[c.2 e];exact h);omega
theorem BV{a:List Loop}(A:Fit a): ∀(bD:List Loop) (n k:Nat) (p:List Int) (out:List (List Int)),5500000+bD.length<=n->a.drop k=bD->k<=a.length->fR k p->eE bD p<=1200->out.length<=120->
  ah (ma n out a p) (λr=>(out.length+(eA bD p).length<=120->r=out++eA bD p)/\(120<out.length+(eA bD p).length->120<r.length))
 | [],n,k,p,out,Q,B,R,o,W,T=>by
  obtain⟨n,rfl⟩: ∃j,n=j+1:=⟨n-1,O⟩
  have U:=tW B R;have q:=o.1;have C:=A.1;unfold ma;rw[bP (show(p.length:Int)=(a.length:Int) by omega)];refine dw (ai (kx p O) (ai (ej bY) (ah.some ⟨λ_=>rfl,λh=>by simp[eA] at h ⊢; omega⟩)))
 |l::bD,n,k,p,out,Q,B,R,o,W,T=>by
  obtain⟨n,rfl⟩: ∃j,n=j+1:=⟨n-1,O⟩
  obtain⟨X,V,d3⟩:=xm B;obtain⟨t,u⟩:=A.2 k l X;have q:=o.1;have C:=A.1;have D:k<=3:=O
  simp only[List.length_cons] at Q;unfold ma;rw[bA (show¬(p.length:Int)=(a.length:Int) by omega)];refine cx (ai (x:=l) (by rw[q];exact bw X) (ai (Db O t u o) ?_));let f:Int->Int:=λv=>eE bD (p++[v]);have e: ∀v,1<=f v:=λv=>uE _ _;have Y:eE (l::bD) p=1+((cY (cZ l p) (dJ l p)).map f).sum:=rfl;let g:Int->List (List Int):=λv=>eA bD (p++[v]);have sg:eA (l::bD) p=(cY (cZ l p) (dJ l p)).flatMap g:=rfl;have E:cZ l p<=dJ l p->dJ l p-cZ l p<=1199:=λF=>by
   have:=lp f (cY (cZ l p) (dJ l p)) λy _=>e y
   have:=Rv F;omega
  refine ah.loop (λx:List (List Int)×Int=>cZ l p<=x.2/\(x.2<=dJ l p\/x.2=cZ l p)/\(out.length+((cY (cZ l p) x.2).flatMap g).length<=120->x.1=out++(cY (cZ l p) x.2).flatMap g)/\(120<out.length+((cY (cZ l p) x.2).flatMap g).length->120<x.1.length))
   (λx=>(dJ l p-x.2).toNat) ?_ n _ ⟨fV _,.inr rfl,λ_=>by rw[jk (fV _)];simp,λh=>by rw[jk (fV _)] at h;simp at h;omega⟩ Z
  rintro G ⟨x,v⟩ ⟨s,I,H,K⟩ bH;dsimp only at s I H K⊢;refine ah.aW (λz=>z=decide (v<dJ l p/\x.length<=120)) (λj M=>bb (λh=>M _ ?_) λh=>M _ ?_) λz da=>?_
  ·by_cases c:x.length<=120
   ·rw[bP (show(x.length:Int)<=120 by omega),bP ⟨h,c⟩]
   rw[bA (show¬(x.length:Int)<=120 by omega),bA λh=>c h.2]
  ·rw[bA λN=>h N.1]
  subst da;refine bb (λ⟨d,c⟩=>?_) λw=>ah.some ?_
  ·have i:x=out++(cY (cZ l p) v).flatMap g:=H (by apply Nat.not_lt.1;intro h;have:=K h;omega);have m:=uh t u o D ⟨s,d⟩;have L:f v<=1200:=by
    rw[Y,xd s d,jy,List.sum_append,List.map_cons,List.sum_cons] at W
    have:=lp f (cY (v+1) (dJ l p)) λy _=>e y
    have:=lp f (cY (cZ l p) v) λy _=>e y;omega
   refine ai (kx p O) (ai (ej bY) (jP (BV A bD n (k+1) (p++[v]) x O V O m L c) λr ⟨o0,qZ⟩=>?_));have Hn: -1000000000<=v/\v<=1000000000:=by
    have h9:=m.2.2 v aY;have hN:=nV m.2.1;simp only[ew] at h9;omega
   rw[bd (n:=v+1) O];have P:(cY (cZ l p) (v+1)).flatMap g=(cY (cZ l p) v).flatMap g++g v:=by rw[oY s,lv];simp
   refine bH _ ⟨Z,.inl Z,?_,?_⟩ Z
   ·dsimp only;rw[P];intro h;simp only[List.length_append] at h;have cc:x.length=out.length+((cY (cZ l p) v).flatMap g).length:=by rw[i,dq]
    rw[o0 (O:x.length+(g v).length<=120),i,iq]
   dsimp only;rw[P];intro h;simp only[List.length_append] at h;have cc:x.length=out.length+((cY (cZ l p) v).flatMap g).length:=by rw[i,dq]
   exact qZ (O:120<x.length+(g v).length)
  have b:((cY (cZ l p) v).flatMap g).length<=(eA (l::bD) p).length/\(dJ l p<=v->(cY (cZ l p) v).flatMap g=eA (l::bD) p):=by
   rw[sg];by_cases h:v<dJ l p
   ·refine⟨?_,λN=>O⟩;rw[xd s h,lv,dq];omega
   have:cY (cZ l p) v=cY (cZ l p) (dJ l p):=by
    rcases I with S|S
    ·rw[show v=dJ l p by omega]
    subst S;rw[jk (fV _),jk O]
   rw[this];exact⟨cL _,λ_=>rfl⟩
  refine⟨λh=>?_,λh=>?_⟩
  ·have c:=H O;rw[c,b.2];apply Int.not_lt.1;intro d;exact w ⟨d,by rw[c,dq];omega⟩
  apply Nat.not_le.1;intro c;have d:dJ l p<=v:=by apply Int.not_lt.1;intro d;exact w ⟨d,c⟩
  have:=K (by rw[b.2 d];exact h);omega
theorem D4{a:List Loop}(A:Fit a): ∀(bD:List Loop) (n k:Nat) (p:List Int) (st:Int) (out:List (List Int)),5500000+bD.length<=n->a.drop k=bD->k<=a.length->fR k p->0<=st->st<=1199->out.length<=120->
  ah (mU n ⟨a,st,out⟩ p) (λr=>(st+eE bD p<=1200/\out.length+(eA bD p).length<=120->r=(true,⟨a,st+eE bD p-1,out++eA bD p⟩))/\(¬(st+eE bD p<=1200/\out.length+(eA bD p).length<=120)->r.1=false))
 | [],n,k,p,st,out,R,C,W,i,X,t,m=>by
  obtain⟨n,rfl⟩: ∃j,n=j+1:=⟨n-1,O⟩
  have lS:=tW C W;have q:=i.1;have D:=A.1;unfold mU;dsimp only;rw[bP (show(p.length:Int)=(a.length:Int) by omega)];have c:ho p=some p:=by unfold ho;rw[bh O]
  refine dw (ai c (ai (ej bY) (ah.some ⟨λh=>?_,λh=>?_⟩)))
  ·simp only[eE,eA,List.length_singleton] at h⊢;rw[bP bY,show st+1-1=st by omega]
  simp only[eE,eA,List.length_singleton] at h⊢;exact bA bY
 |l::bD,n,k,p,st,out,R,C,W,i,X,t,m=>by
  obtain⟨n,rfl⟩: ∃j,n=j+1:=⟨n-1,O⟩
  obtain⟨u,d2,d3⟩:=xm C;obtain⟨E,I⟩:=A.2 k l u;have q:=i.1;have D:=A.1;have F:k<=3:=O
  simp only[List.length_cons] at R;unfold mU;dsimp only;rw[bA (show¬(p.length:Int)=(a.length:Int) by omega)];refine cx (ai (x:=l) (by rw[q];exact bw u) (ai (OJ O E I i) ?_));let f:Int->Int:=λv=>eE bD (p++[v]);have b: ∀v,1<=f v:=λv=>uE _ _;have M:eE (l::bD) p=1+((cY (cZ l p) (dJ l p)).map f).sum:=rfl;let g:Int->List (List Int):=λv=>eA bD (p++[v]);have N:eA (l::bD) p=(cY (cZ l p) (dJ l p)).flatMap g:=rfl;refine ah.loop (λx:List Loop×Int×List (List Int)×Int=>x.1=a/\cZ l p<=x.2.2.2/\(x.2.2.2<=dJ l p\/x.2.2.2=cZ l p)/\x.2.1=st+((cY (cZ l p) x.2.2.2).map f).sum/\x.2.2.1=out++(cY (cZ l p) x.2.2.2).flatMap g/\0<=x.2.1/\x.2.1<=1199/\x.2.2.1.length<=120)
   (λx=>(1200-x.2.1).toNat) ?_ n _ ⟨rfl,fV _,.inr rfl,by dsimp only;rw[jk (fV _)];simp,by dsimp only;rw[jk (fV _)];simp,X,t,m⟩ Z
  rintro G ⟨H,x,o,v⟩ ⟨P,s,S,B,e,i5,i6,T⟩ bH;dsimp only at P s S B e i5 i6 T⊢;subst P;have oG:o.length=out.length+((cY (cZ l p) v).flatMap g).length:=by rw[e,dq]
  refine bb (λK=>?_) λK=>ah.some ?_
  ·have d:=uh E I i F ⟨s,K⟩;have L:eE (l::bD) p≥1+((cY (cZ l p) v).map f).sum+f v/\(eA (l::bD) p).length≥((cY (cZ l p) v).flatMap g).length+(g v).length:=by
    rw[M,N,xd s K,jy,List.sum_append,List.map_cons,List.sum_cons,lv,dq,List.flatMap_cons,dq]
    have:=lp f (cY (v+1) (dJ l p)) λy _=>b y;constructor
    ·omega
    omega
   have Hn: -1000000000<=v/\v<=1000000000:=by
    have h9:=d.2.2 v aY;have hN:=nV d.2.1;simp only[ew] at h9;omega
   have e1:wr (x+1)=x+1:=by rw[bd O]
   have e2:wr (x+1+1)=x+1+1:=by rw[bd O]
   have jJ:wr (v+1)=v+1:=by rw[bd O]
   rw[e1,e2,jJ];refine ah.aW (λz:List Loop×Int×List (List Int)×Bool=>(z.2.2.2=false->z.1=H/\x+f v<=1199/\o.length+(g v).length<=120/\z.2.1=x+f v/\z.2.2.1=o++g v)/\(z.2.2.2=true-> ¬(st+eE (l::bD) p<=1200/\out.length+(eA (l::bD) p).length<=120)))
    (λj Q=>bb (λh=>Q _ ⟨λjQ=>(by cases jQ),λ_=>?_⟩) λh=>?_) λz da=>?_
   ·have:=b v;omega
   ·have c:ho p=some p:=by unfold ho;rw[bh O]
    refine ai c (ai (ej bY) (jP (D4 A bD n (k+1) (p++[v]) (x+1) o O d2 O d O O T) λr ⟨o0,qZ⟩=>?_));by_cases c:x+1+f v<=1200/\o.length+(g v).length<=120
    ·rw[o0 c];exact Q _ ⟨λ_=>⟨rfl,O,c.2,show x+1+f v-1=x+f v by omega,rfl⟩,λh=>(by cases h)⟩
    have w:=qZ c;obtain⟨XN,⟨b2,XO,ro⟩⟩:=r;dsimp only at w⊢;subst w;exact Q _ ⟨λh=>(by cases h),λ_=>O⟩
   obtain⟨Cz,XV,XW,W7⟩:=z;obtain⟨U,V⟩:=da;dsimp only at U V⊢;cases W7 with
   |true=>exact ah.some ⟨λh=>a6 h (V rfl),λ_=>rfl⟩
   |false=>
    obtain⟨rfl,XU,WW,WX,Y⟩:=U rfl;refine bH _ ⟨rfl,Z,.inl Z,?_,?_,by dsimp only;have:=b v;omega,Z,?_⟩ (by dsimp only;have:=b v;omega)
    ·dsimp only;rw[oY s,Er,WX,B];omega
    ·dsimp only;rw[Y,e,oY s,lv];simp
    dsimp only;rw[Y,dq];exact WW
  have:cY (cZ l p) v=cY (cZ l p) (dJ l p):=by
   rcases S with m|m
   ·rw[show v=dJ l p by omega]
   subst m;rw[jk (fV _),jk O]
  rw[this] at B e oG;rw[<-N] at e oG;refine⟨λh=>?_,λh=>?_⟩
  ·rw[e,B,M,show st+(1+((cY (cZ l p) (dJ l p)).map f).sum)-1=st+((cY (cZ l p) (dJ l p)).map f).sum by omega]
  exact a6 ⟨O,O⟩ h
def hD(a:List Loop):Option (List (List Int)):=if iI a=true/\eE a []<=1200/\(eA a []).length<=120 then some (eA a []) else none
def ob:Option (List (List Int))->List (List Int)×Bool
 |none=>([],false)
 |some l=>(l,true)
theorem tc:fR 0 []:=⟨rfl,O,λx h=>by cases h⟩
theorem J1(i:6600000<=n)(h:pD o):m8 n o=some (ob (hD o)):=by
 refine ah.eq ?_;unfold m8;refine ai (Kd O h) ?_;unfold hD;cases c:iI o with
 |false=>exact ah.some (by simp[ob])
 |true=>
  have b:=uV c;refine jP (D4 b o n 0 [] 0 [] (by have:=b.1;omega) rfl O tc O O aY) λr ⟨d,e⟩=>?_;by_cases a:(0:Int)+eE o []<=1200/\([]:List (List Int)).length+(eA o []).length<=120
  ·rw[d a,bh ⟨rfl,O,by simpa using a.2⟩];exact ah.some (by simp[ob])
  rw[e a,bp λh=>a ⟨O,by simpa using h.2.2⟩];exact ah.some rfl
theorem JZ(m:6600000<=n)(h:pD o):vS n o=some (ob (hD o)):=by
 refine ah.eq ?_;unfold vS;refine ah.aW (λz=>z= !(iI o&&decide (eE o []<=1200))) (λj k=>ai (Ka O h) ?_) λz l=>?_
 ·cases b:iI o with
  |false=>exact k _ (by rw[b];rfl)
  |true=>
   have c:=uV b;refine jP (Dy c o n 0 [] 1200 (by have:=c.1;omega) rfl O tc O O) λr ⟨d,e,p,q⟩=>k _ ?_;rw[b,iu];by_cases a:eE o []<=1200
   ·rw[bP a,bA (by rw[d a];omega)];rfl
   rw[bA a,bP (e O)];rfl
 subst l;unfold hD;cases b:iI o with
 |false=>exact ah.some (by simp[ob])
 |true=>
  have c:=uV b;by_cases a:eE o []<=1200
  ·rw[bP a];refine jP (BV c o n 0 [] [] (by have:=c.1;omega) rfl O tc a aY) λr ⟨d,e⟩=>?_;by_cases i:(eA o []).length<=120
   ·rw[d (by simpa using i),bh ⟨rfl,a,i⟩];refine bb (λh=>a6 h bY) λ_=>ah.some (by simp[ob])
   have:=e bY;rw[bp λh=>i h.2.2];exact bb (λ_=>ah.some rfl) λh=>a6 h O
  rw[bA a,bp λh=>a h.2.1];exact ah.some rfl
def j1(s:List UInt8):Bool:=match s with
 | [b]=>decide (65<=b.toNat/\b.toNat<=68)
 |_=>false
theorem wH(h:s.length≠1):j1 s=false:=by
 match s,h with
 | [],_=>rfl
 | [b],h=>exact a6 rfl h
 |_::_::_,_=>rfl
theorem Ab(h:s.length=1): ∃b,s=[b]:=by
 match s,h with
 | [b],_=>exact⟨b,rfl⟩
theorem rQ(b:UInt8)(k:Nat)(a:k<256):(b=UInt8.ofNat k)↔b.toNat=k:=by
 constructor
 ·intro h;rw[h];simp;omega
 intro h;rw[<-h];simp
theorem K5(b:UInt8):Lib.contains [65,66,67,68] [b]=decide (65<=b.toNat/\b.toNat<=68):=by
 have h:(b=65)↔b.toNat=65:=rQ b 65 O;have i:(b=66)↔b.toNat=66:=rQ b 66 O;have k:(b=67)↔b.toNat=67:=rQ b 67 O;have l:(b=68)↔b.toNat=68:=rQ b 68 O;by_cases a:b=65
 ·subst a;decide
 by_cases c:b=66
 ·subst c;decide
 by_cases d:b=67
 ·subst d;decide
 by_cases e:b=68
 ·subst e;decide
 rw[h] at a;rw[i] at c;rw[k] at d;rw[l] at e;rw[bA O];rw[<-h] at a;rw[<-i] at c;rw[<-k] at d;rw[<-l] at e;simp[Lib.contains,Lib.index,a,c,d,e]
theorem CA(n:Nat)(s:List UInt8):tj n s=some (j1 s):=by
 unfold tj;by_cases h:s.length=1
 ·obtain⟨b,rfl⟩:=Ab h;simp only[aW,sR];rw[bh aY,K5];rfl
 rw[bA (show¬(s.length:Int)=1 by omega),wH h];rfl
theorem Dh(b:UInt8):Op.bytesLess [b] [65]=decide (b.toNat<65):=by simp[Op.bytesLess,UInt8.lt_iff_toNat_lt]
theorem Dg(b:UInt8):(Op.bytesLess [b] [68]||[b]==[68])=decide (b.toNat<=68):=by
 have e:(b=68)↔b.toNat=68:=rQ b 68 O;by_cases h:b=68
 ·subst h;decide
 have c:b.toNat≠68:=λa=>h (e.2 a)
 have:([b]==[(68:UInt8)])=false:=by simp[h]
 rw[this,Bool.or_false];simp only[Op.bytesLess,Bool.and_false,Bool.or_false,UInt8.lt_iff_toNat_lt];apply decide_eq_decide.2;show b.toNat<68↔_;omega
def f8(a:bR)(d:Int):Bool:=a.ak.all (λx=>ep x d)&&(j1 a.array&&decide (1<=a.ak.length/\a.ak.length<=2))
theorem ON(b:5500000<=n)(c:ko a)(d:Int):sK n a d=some (!ep a d):=Dj b c d
theorem Jr(b:5500000<=n){a:bR}(c:iW a.ak)(d:Int):s6 n a d=some (f8 a d):=by
 obtain⟨m,h⟩:=c;unfold s6;rw[CA,BI];have bj:=vE (n:=n) (f:=λi=>sK n i d) (p:=λa=> !ep a d) (l:=a.ak) (λx k=>ON b (h x k) d) O O;simp only[aW,Option.bind];rw[bj];unfold f8;have e:(a.ak.any λa=> !ep a d)= !(a.ak.all λa=>ep a d):=by
  rw[pd];simp
 rw[e];cases j1 a.array<;>cases decide (1<=a.ak.length/\a.ak.length<=2)<;>simp
theorem Jp(A:5500000<=n){a:bR}(r:iW a.ak)(d:Int):sW n a d=some (f8 a d):=by
 obtain⟨H,D⟩:=r;refine ah.eq ?_;unfold sW;refine l5 (l:=a.ak) (p:=λ_ a=>ep a d) O O (λk i x o v w=>?_) (λk q=>?_) (λ⟨i,x,o,F⟩=>?_)
 ·have aG:=(bt.1 o).1;have hm:=D x (bB o);rw[bP (show(i:Int)<(a.ak.length:Int) by omega)];refine dw (ah.aW (λz=>z= !ep x d) (λj m=>ai (bw o) (ai (Bl A x hm) ?_)) λz y=>?_)
  ·cases r:cX x with
   |false=>exact m _ (by unfold ep;rw[r];rfl)
   |true=>exact ai (Cg A hm) (m _ (by unfold ep;rw[r,vP];simp))
  subst y;cases s:ep x d with
  |true=>show ah (k _) _;rw[bd O];exact v s
  |false=>exact ah.some (w s)
 ·rw[bA (show¬(a.ak.length:Int)<(a.ak.length:Int) by omega)];have e:a.ak.all (λa=>ep a d)=true:=fG.2 λc G=>by obtain⟨i,aG⟩:=im G;exact q i c aG
  unfold f8;rw[e,iu];refine cx (ah.aW (λz=>z=(j1 a.array&&decide (1<=a.ak.length/\a.ak.length<=2))) (λj m=>?_) λz y=>ah.some y);by_cases h:a.array.length=1
  ·rw[bP (show(a.array.length:Int)=1 by omega)];obtain⟨b,s⟩:=Ab h;rw[s] at m⊢;rw[Dh,Dg];show ah (bif _ then _ else _) _;simp only[j1] at m⊢;by_cases B:b.toNat<65
   ·rw[bP B];exact m _ (by rw[bA (show¬(65<=b.toNat/\b.toNat<=68) by omega)];rfl)
   rw[bA B];by_cases C:b.toNat<=68
   ·rw[bP C];rw[bP (O:65<=b.toNat/\b.toNat<=68)] at m⊢;refine bb (λh=>m _ ?_) λh=>m _ ?_
    ·by_cases K:a.ak.length<=2
     ·rw[bP (show(a.ak.length:Int)<=2 by omega),bP O];rfl
     rw[bA (show¬(a.ak.length:Int)<=2 by omega),bA O];rfl
    rw[bA O];rfl
   rw[bA C];exact m _ (by rw[bA (show¬(65<=b.toNat/\b.toNat<=68) by omega)];rfl)
  rw[bA (show¬(a.array.length:Int)=1 by omega)];exact m _ (by rw[wH h];rfl)
 unfold f8;rw[hz.2 ⟨x,bB o,by rw[F];simp⟩];rfl
def fM(a:aH):Bool:=decide (a.ao.length=0)&&decide (a.const=0)
def hR(a:bR):Bool:=decide (a.array=[])&&decide (a.ak.length=0)
theorem u5(k:Nat):decide ((k:Int)=0)=decide (k=0):=decide_eq_decide.2 O
theorem K2(n:Nat)(a:aH):s3 n a=some (fM a):=by unfold s3 fM;rw[u5];cases decide (a.ao.length=0)<;>rfl
theorem LN(n:Nat)(a:aH):qT n a=some (fM a):=by unfold qT fM;rw[u5];cases decide (a.ao.length=0)<;>rfl
theorem K3(n:Nat)(a:bR):oQ n a=some (hR a):=by unfold oQ hR;rw[u5];cases decide (a.array=[])<;>rfl
theorem LA(n:Nat)(a:bR):qH n a=some (hR a):=by unfold qH hR;rw[u5];cases decide (a.array=[])<;>rfl
def eS(e:Expr)(d:Int):Bool:=
 if e.kind=2 then decide (e.num=0)&&(hR e.read&&ep e.index d)
 else if e.kind=3 then decide (e.num=0)&&(fM e.index&&f8 e.read d)
 else if e.kind=1 then decide (0<=e.num/\e.num<=99)&&(fM e.index&&hR e.read)
 else decide (e.num=0)&&(fM e.index&&hR e.read)
def fx(k:Int):Int:=if k=1\/k=2\/k=3 then 0 else if k=4\/k=5\/k=6 then 2 else-1
theorem LO(n:Nat)(k:Int):xM n k=some (fx k):=by
 unfold xM fx;by_cases a:k=1
 ·subst a;rfl
 by_cases b:k=2
 ·subst b;rfl
 by_cases c:k=3
 ·subst c;rfl
 by_cases d:k=4
 ·subst d;rfl
 by_cases e:k=5
 ·subst e;rfl
 by_cases h:k=6
 ·subst h;rfl
 simp[aW,a,b,c,d,e,h]
theorem M8(a:5500000<=n){e:Expr}(b:ko e.index)(c:iW e.read.ak)(d:Int):uf n e d=some (eS e d):=by
 unfold uf eS;rw[LA,LN,Bl a _ b,Cg a b,Jp a c];by_cases bZ:e.kind=2
 ·rw[bh bZ,bP bZ];simp only[aW,Option.bind,cond_true,ep];cases decide (e.num=0)<;>cases hR e.read<;>cases cX e.index<;>simp
 rw[bp bZ,bA bZ];by_cases dF:e.kind=3
 ·rw[bh dF,bP dF];simp only[aW,Option.bind,cond_true,cond_false];cases decide (e.num=0)<;>cases fM e.index<;>simp
 rw[bp dF,bA dF];by_cases b6:e.kind=1
 ·rw[bh b6,bP b6];simp only[aW,Option.bind,cond_true,cond_false];by_cases h:0<=e.num<;>by_cases i:e.num<=99<;>cases fM e.index<;>simp[h,i]
 rw[bp b6,bA b6];simp only[aW,Option.bind,cond_false];cases decide (e.num=0)<;>cases fM e.index<;>simp
end
section
def pC:Nat->Expr->Prop
 |0,_=>True
 |L+1,e=>e.aJ.length<=1100000/\ko e.index/\iW e.read.ak/\ ∀k∈e.aJ,pC L k
def dR:Nat->Expr->Int->Bool
 |0,_,_=>false
 |L+1,e,d=>decide (fx e.kind=e.aJ.length)&&(eS e d&&e.aJ.all λk=>dR L k d)
def dW:Nat->Expr->Int
 |0,_=>1
 |L+1,e=>1+(e.aJ.map (dW L)).sum
theorem l3(k:Int):fx k<=2:=by unfold fx;split;omega;split<;>omega
theorem JG(d:Int): ∀(L n:Nat) (e:Expr),5500000+L<=n->L<=1100000->pC L e->nn (n+1) e d (L:Int)=some (dR L e d)
 |0,n,e,_,_,_=>by unfold nn;rfl
 |L+1,n,e,H,K,w=>by
  obtain⟨Q,y,A,B⟩:=w;unfold nn;refine ah.eq ?_;refine ah.aW (λz=>z= !(decide (fx e.kind=e.aJ.length)&&eS e d)) (λj r=>bb (λh=>O) λh=>ai (LO n _) (dL (λh=>r _ ?_) λh=>ai (M8 O y A d) (r _ ?_))) λz C=>?_
  ·rw[bA h];rfl
  ·rw[bP h];rfl
  subst C;unfold dR;cases s:(decide (fx e.kind=e.aJ.length)&&eS e d) with
  |false=>exact ah.some (by rw[<-kf,s];rfl)
  |true=>
   rw[<-kf,s,iu];refine cx ?_;obtain⟨n,rfl⟩: ∃j,n=j+1:=⟨n-1,O⟩
   have D:wr (((L+1:Nat):Int)-1)=(L:Int):=by rw[bd O];omega
   rw[D];refine l5 (l:=e.aJ) (p:=λ_ k=>dR L k d) O O (λa i x b o q=>?_) (λa m=>?_) (λ⟨i,x,b,F⟩=>?_)
   ·have aG:=(bt.1 b).1;rw[bP (show(i:Int)<(e.aJ.length:Int) by omega)];refine dw (ai (bw b) (ai (JG d L n x O O (B x (bB b))) ?_));cases v:dR L x d with
    |true=>show ah (a _) _;rw[bd O];exact o v
    |false=>exact ah.some (q v)
   ·rw[bA (show¬(e.aJ.length:Int)<(e.aJ.length:Int) by omega)];refine ah.some ?_;exact(fG.2 λc G=>by obtain⟨i,aG⟩:=im G;exact m i c aG).symm
   exact(hz.2 ⟨x,bB b,by rw[F];simp⟩).symm
theorem rj: ∀(L:Nat) (e:Expr),1<=dW L e
 |0,_=>fV _
 |L+1,e=>by have:=lp (dW L) e.aJ λk _=>rj L k;simp only[dW];omega
theorem zx{k:Type}(f:k->Int)(M:Int): ∀(l:List k),(∀x∈l,f x<=M)->(l.map f).sum<=l.length*M
 | [],_=>aY
 |x::l,h=>by have b:=zx f M l λy a=>h y (by simp[a]);have c:=h x aY;simp only[List.map_cons,List.sum_cons,List.length_cons,Int.natCast_add,Int.add_mul];omega
variable {d:Int}{n i k:Nat}{s:Stmt}{r:List bX}{x:Part}{a:bR}{l:List Part}{p:Prog}{q m:List Int}
theorem jj{L:Nat}{e:Expr}(h:dR (L+1) e d=true):fx e.kind=e.aJ.length/\eS e d=true/\ ∀k∈e.aJ,dR L k d=true:=by simp only[dR,Bool.and_eq_true,decide_eq_true_eq,List.all_eq_true] at h;exact⟨h.1,h.2.1,h.2.2⟩
theorem uI: ∀{L:Nat} {e:Expr} {d:Int},dR L e d=true->dW L e+1<=2^L
 |0,e,d,h=>by cases h
 |L+1,e,d,h=>by
  obtain⟨c,_,a⟩:=jj h;have i:=zx (dW L) ((2:Int)^L-1) e.aJ λk b=>by have:=uI (a k b);omega
  have l:=l3 e.kind;have m:(e.aJ.length:Int)*((2:Int)^L-1)<=2*((2:Int)^L-1):=by
   refine Int.mul_le_mul_of_nonneg_right O ?_
   have:(0:Int)<2^L:=Int.pow_pos O;omega
  simp only[dW];rw[Int.pow_succ];omega
theorem JH{d:Int}: ∀(L n:Nat) (e:Expr),5500000+L<=n->L<=5->dR L e d=true->o9 (n+1) e (L:Int)=some (dW L e)
 |0,n,e,_,_,h=>by cases h
 |L+1,n,e,G,r,h=>by
  obtain⟨H,_,o⟩:=jj h;have K:=l3 e.kind;have p: ∀k∈e.aJ,dW L k<=40:=λk b=>by
   have Q:=uI (o k b);have R:(2:Int)^L<=40:=by
    match L,r with
    |0,_=>decide
    |1,_=>decide
    |2,_=>decide
    |3,_=>decide
    |4,_=>decide
   omega
  unfold o9;refine ah.eq ?_;obtain⟨n,rfl⟩: ∃j,n=j+1:=⟨n-1,O⟩
  have s:wr (((L+1:Nat):Int)-1)=(L:Int):=by rw[bd O];omega
  rw[s];refine ah.loop (λx:Int×Int=> ∃i:Nat,x.2=i/\i<=e.aJ.length/\x.1=1+((e.aJ.take i).map (dW L)).sum) (λx=>e.aJ.length-x.2.toNat) ?_ (n+1) _ ⟨0,rfl,O,aY⟩ bY;rintro c ⟨x,k⟩ ⟨i,b,W,l⟩ v;dsimp only at b l⊢;subst b;refine ah.aW (λz=>z=decide (i<e.aJ.length)) (λj q=>bb (λh=>q _ ?_) λh=>q _ ?_) λz w=>?_
  ·rw[bP (show(0:Int)<((L+1:Nat):Int) by omega),bP O]
  ·rw[bA O]
  subst w;refine bb (λm=>?_) λA=>ah.some ?_
  ·have a:=bg m;have hm:=bB a;refine ai (bw a) (ai (JH (d:=d) L n _ O O (o _ hm)) ?_);have hs:=zx (dW L) 40 (e.aJ.take i) λy B=>p y (hv B);have C:=lp (dW L) (e.aJ.take i) λy _=>rj L y;have D:=p _ hm;have F:=rj L e.aJ[i];have X:((e.aJ.take i).length:Int)<=2:=bY
   rw[bd (n:=x+dW L e.aJ[i]) O,bd O];refine v _ ⟨i+1,Z,O,?_⟩ Z;dsimp only;rw[eG,a,jy,List.sum_append,l];simp;omega
  have:i=e.aJ.length:=O
  rw[l,this,dA];rfl
def rL(e:Expr):Bool:=(decide (e.kind=1)||decide (e.num=0))&&((decide (e.kind=2)||fM e.index)&&(decide (e.kind=3)||hR e.read))
theorem BC(d:Int): ∀(L n:Nat) (e:Expr) (c:Int),5500000+L<=n->L<=5->pC L e->0<=c->c<=12->
  ah (lZ (n+1) e d (6-(L:Int)) c) (λr=>r.1=(dR L e d&&decide (c+dW L e<=12))/\(r.1=true->r.2=c+dW L e))
 |0,n,e,c,N,P,t,S,T=>by
  unfold lZ;refine ah.aW (λz=>z=true) (λj i=>bb (λh=>i _ rfl) λh=>i _ (by decide)) λz m=>?_;subst m;exact ah.some ⟨rfl,λh=>by cases h⟩
 |L+1,n,e,c,N,P,t,S,T=>by
  obtain⟨e1,u,U,E⟩:=t;have V:=rj (L+1) e;unfold lZ;have Y:wr (c+1)=c+1:=bd O;have TP:wr (6-(((L+1:Nat)):Int)+1)=6-(L:Int):=by rw[bd O];omega
  rw[Y,TP];refine ah.aW (λz=>z=decide (12<c+1)) (λj i=>bb (λh=>i _ (bP h).symm) λh=>i _ ?_) λz m=>?_
  ·rw[bA h,bA O]
  subst m;refine bb (λh=>ah.some ⟨?_,λh=>by cases h⟩) λbj=>?_
  ·rw[bA (show¬c+dW (L+1) e<=12 by omega),mh]
  refine ah.aW (λz=>z= !rL e) (λj i=>?_) λz m=>?_
  ·rw[K2,K3];unfold rL at i;simp only[Option.bind];by_cases b6:e.kind=1
   ·have bZ: ¬e.kind=2:=O
    have dF: ¬e.kind=3:=O
    rw[bP b6,bA bZ,bA dF] at*;simp only[Bool.not_true,Bool.not_false,cond_true,cond_false,Bool.true_or,Bool.true_and,Bool.false_or] at*;cases H:fM e.index with
    |false=>exact i _ (by rw[H];rfl)
    |true=>exact i _ (by rw[H];rfl)
   rw[bA b6] at*;simp only[Bool.not_false,cond_true,Bool.false_or] at*;by_cases o:e.num=0
   ·rw[bP o] at*;simp only[Bool.not_true,cond_false,Bool.true_and] at*;by_cases bZ:e.kind=2
    ·have dF: ¬e.kind=3:=O
     rw[bP bZ,bA dF] at*;simp only[Bool.not_true,Bool.not_false,cond_true,cond_false,Bool.true_or,Bool.true_and,Bool.false_or] at*;exact i _ rfl
    rw[bA bZ] at*;simp only[Bool.not_false,cond_true,Bool.false_or] at*;cases H:fM e.index with
    |false=>exact i _ (by rw[H];rfl)
    |true=>
     by_cases dF:e.kind=3
     ·rw[bP dF] at*;exact i _ (by rw[H];rfl)
     rw[bA dF] at*;exact i _ (by rw[H];rfl)
   rw[bA o] at*;exact i _ rfl
  subst m;cases s:rL e with
  |false=>
   refine ah.some ⟨?_,λh=>by cases h⟩
   have:eS e d=false:=by
    unfold rL at s;unfold eS;by_cases bZ:e.kind=2
    ·have b6: ¬e.kind=1:=O
     have dF: ¬e.kind=3:=O
     rw[bh bZ];rw[bP bZ,bA b6,bA dF] at s;revert s;cases decide (e.num=0)<;>cases hR e.read<;>simp
    rw[bp bZ];by_cases dF:e.kind=3
    ·have b6: ¬e.kind=1:=O
     rw[bh dF];rw[bA bZ,bA b6,bP dF] at s;revert s;cases decide (e.num=0)<;>cases fM e.index<;>simp
    rw[bp dF];rw[bA bZ,bA dF] at s;by_cases b6:e.kind=1
    ·rw[bh b6];rw[bP b6] at s;revert s;cases fM e.index<;>cases hR e.read<;>simp
    rw[bp b6];rw[bA b6] at s;revert s;cases decide (e.num=0)<;>cases fM e.index<;>cases hR e.read<;>simp
   unfold dR;rw[this];simp
  |true=>
   refine cx ?_;unfold rL at s;simp only[Bool.and_eq_true,Bool.or_eq_true,decide_eq_true_eq] at s;obtain⟨tb,I,Q⟩:=s;have p: ∀(b:Bool),eS e d=b->fx e.kind=0-> ∀(z:Bool),z=(b&&decide ((e.aJ.length:Int)=0))->z=(dR (L+1) e d&&decide (c+dW (L+1) e<=12))/\(z=true->c+1=c+dW (L+1) e):=by
    intro b aR D z m;unfold dR;rw[aR,D];by_cases h:e.aJ.length=0
    ·have B:e.aJ=[]:=iQ h;have F:dW (L+1) e=1:=by simp[dW,B]
     rw[F,bP (O:c+1<=12)];rw[bP (show(e.aJ.length:Int)=0 by omega)] at m;rw[m,B];simp
    rw[bA (show¬(e.aJ.length:Int)=0 by omega)] at m;rw[m,bA (show¬(0:Int)=(e.aJ.length:Int) by omega)];simp
   by_cases b6:e.kind=1
   ·have bZ: ¬e.kind=2:=O
    have dF: ¬e.kind=3:=O
    rw[bP b6];have l:eS e d=decide (0<=e.num/\e.num<=99):=by
     unfold eS;rw[bp bZ,bp dF,bh b6];rcases I with h|h
     ·exact a6 h bZ
     rcases Q with y|y
     ·exact a6 y dF
     rw[h,y];simp
    refine dw (ah.aW (λz=>z=(decide (0<=e.num/\e.num<=99)&&decide ((e.aJ.length:Int)=0))) (λj i=>ai (jK n _ _ _) ?_) λz m=>ah.some ?_)
    ·cases w:decide (0<=e.num/\e.num<=99) with
     |true=>exact i _ (by rw[w];rfl)
     |false=>exact i _ (by rw[w];rfl)
    exact p _ l (by unfold fx;rw[bh (Or.inl b6)]) _ m
   rw[bA b6];refine cx ?_;have o:e.num=0:=by
    rcases tb with h|h
    ·exact a6 h b6
    exact h
   by_cases bZ:e.kind=2
   ·have dF: ¬e.kind=3:=O
    rw[bP bZ];have l:eS e d=ep e.index d:=by
     unfold eS;rw[bh bZ,bP o];rcases Q with y|y
     ·exact a6 y dF
     rw[y];simp
    refine dw (ah.aW (λz=>z=(ep e.index d&&decide ((e.aJ.length:Int)=0))) (λj i=>ai (HY O _ u) ?_) λz m=>ah.some ?_)
    ·unfold ep at i;cases w:cX e.index with
     |false=>exact i _ (by rw[w];rfl)
     |true=>
      refine ai (Di O u) (bb (λh=>i _ ?_) λh=>i _ ?_)
      ·rw[w,bP h];rfl
      rw[w,bA h];rfl
    exact p _ l (by unfold fx;rw[bh (Or.inr (Or.inl bZ))]) _ m
   rw[bA bZ];refine cx ?_;have A:fM e.index=true:=by
    rcases I with h|h
    ·exact a6 h bZ
    exact h
   by_cases dF:e.kind=3
   ·rw[bP dF];have l:eS e d=f8 e.read d:=by
     unfold eS;rw[bp bZ,bh dF,bP o,A];simp
    refine dw (ah.aW (λz=>z=(f8 e.read d&&decide ((e.aJ.length:Int)=0))) (λj i=>ai (Jr O U d) ?_) λz m=>ah.some ?_)
    ·cases w:f8 e.read d with
     |false=>exact i _ (by rw[w];rfl)
     |true=>exact i _ (by rw[w];rfl)
    exact p _ l (by unfold fx;rw[bh (Or.inr (Or.inr dF))]) _ m
   rw[bA dF];refine cx ?_;have l:eS e d=true:=by
    unfold eS;rw[bp bZ,bp dF,bp b6,bP o,A];rcases Q with y|y
    ·exact a6 y dF
    rw[y];rfl
   have R:uS n e.kind=some (decide (4<=e.kind/\e.kind<=6)):=by unfold uS;rw[jK];rfl
   have G:(fx e.kind=2↔(4<=e.kind/\e.kind<=6))/\(fx e.kind=2\/fx e.kind= -1):=by
    unfold fx;rw[bp O];split<;>omega
   refine ah.aW (λz=>z= !(decide (4<=e.kind/\e.kind<=6)&&decide ((e.aJ.length:Int)=2))) (λj i=>ai R ?_) λz m=>?_
   ·cases w:decide (4<=e.kind/\e.kind<=6) with
    |false=>exact i _ (by rw[w];rfl)
    |true=>exact i _ (by rw[w];rfl)
   subst m;by_cases D:(4<=e.kind/\e.kind<=6)/\(e.aJ.length:Int)=2
   ·rw[bP D.1,bP D.2];refine cx ?_;obtain⟨a,b,v⟩: ∃a b,e.aJ=[a,b]:=by
     have:e.aJ.length=2:=O
     match cH:e.aJ,this with
     | [a,b],_=>exact⟨a,b,rfl⟩
    have W:dR (L+1) e d=(dR L a d&&dR L b d):=by
     show(decide (fx e.kind=e.aJ.length)&&(eS e d&&e.aJ.all λk=>dR L k d))=_;rw[l,v,bP (show fx e.kind=(([a,b]:List Expr).length:Int) by rw[G.1.2 D.1];rfl)];simp
    have F:dW (L+1) e=1+(dW L a+dW L b):=by simp[dW,v]
    have Xc:=rj L a;have Xe:=rj L b;rw[W,F];obtain⟨n,rfl⟩: ∃j,n=j+1:=⟨n-1,O⟩
    refine ah.aW (λz:Int×Bool=>z.2=(dR L a d&&dR L b d&&decide (c+(1+(dW L a+dW L b))<=12))/\(z.2=true->z.1=c+(1+(dW L a+dW L b)))) (λj i=>?_) λz m=>ah.some m;refine ai (x:=a) (by rw[v];rfl) (jP (BC d L n a (c+1) O O (E a (by rw[v];simp)) O O) λr ⟨C,X⟩=>?_);cases f:r.1 with
    |false=>
     refine i _ ⟨?_,λh=>by cases h⟩;rw[f] at C;show false=_;by_cases K:dR L a d=true
     ·rw[K,iu] at C
      have:=of_decide_eq_false C.symm;rw[bA (show¬c+(1+(dW L a+dW L b))<=12 by omega),mh]
     rw[Bool.eq_false_iff.2 K];rfl
    |true=>
     have X:=X f;rw[f] at C;have C:=C.symm;rw[q8,decide_eq_true_eq] at C;refine ai (x:=b) (by rw[v];rfl) ?_;rw[X];refine jP (BC d L n b (c+1+dW L a) O O (E b (by rw[v];simp)) O O) λq ⟨jr,q2⟩=>i _ ⟨?_,λh=>?_⟩
     ·show q.1=_;rw[jr,C.1,iu];congr 1;exact decide_eq_decide.2 O
     show q.2=_;rw[q2 h];omega
   have gd:dR (L+1) e d=false:=by
    unfold dR;rw[bA (show¬fx e.kind=(e.aJ.length:Int) by
     intro h;rcases G.2 with M|M
     ·exact D ⟨G.1.1 M,O⟩
     omega)]
    rfl
   have:(decide (4<=e.kind/\e.kind<=6)&&decide ((e.aJ.length:Int)=2))=false:=by
    by_cases g:4<=e.kind/\e.kind<=6
    ·rw[bA (show¬(e.aJ.length:Int)=2 from λh=>D ⟨g,h⟩),mh]
    rw[bA g];rfl
   rw[this,gd];exact ah.some ⟨rfl,λh=>by cases h⟩
def eL(s:Stmt)(d:Int):Bool:=decide (0<=d/\d<=4)&&(f8 s.write d&&(dR 5 s.value d&&decide (dW 5 s.value<=12)))
def uA(s:Stmt):Prop:=iW s.write.ak/\pC 5 s.value
theorem Kc(l:6600000<=n)(h:uA s)(d:Int):wk n s d=some (eL s d):=by
 obtain⟨n,rfl⟩: ∃j,n=j+1:=⟨n-1,O⟩
 refine ah.eq ?_;unfold wk;generalize a:eL s d=T;unfold eL at a;refine ah.aW (λz:Int×Bool=>z.2=T) (λj b=>ai (jK _ _ _ _) ?_) λz i=>ah.some i;cases c:decide (0<=d/\d<=4) with
 |false=>exact b (0,false) (by rw[<-a,c];rfl)
 |true=>
  refine dw (ai (Jr O h.1 d) ?_);cases e:f8 s.write d with
  |false=>exact b (0,false) (by rw[<-a,c,e];rfl)
  |true=>
   refine dw (jP (BC d 5 n s.value 0 O O h.2 O O) λr ⟨k,m⟩=>b _ ?_);rw[<-a,c,e];show r.1=_;rw[k];simp
theorem J'(m:6600000<=n)(h:uA s)(d:Int):wb n s d=some (eL s d):=by
 obtain⟨n,rfl⟩: ∃j,n=j+1:=⟨n-1,O⟩
 refine ah.eq ?_;unfold wb;generalize k:eL s d=T;generalize a:(decide (0<=d/\d<=4)&&(f8 s.write d&&dR 5 s.value d))=B;have b:T=(B&&decide (dW 5 s.value<=12)):=by rw[<-k,<-a];unfold eL;simp only[Bool.and_assoc]
 refine ah.aW (λz=>z= !B) (λj c=>bb (λh=>c _ ?_) λo=>bb (λh=>c _ ?_) λp=>ai (Jp O h.1 d) ?_) λz l=>?_
 ·rw[<-a,bA (show¬(0<=d/\d<=4) by omega)];rfl
 ·rw[<-a,bA (show¬(0<=d/\d<=4) by omega)];rfl
 ·rw[bP (O:0<=d/\d<=4)] at a;cases i:f8 s.write d with
  |false=>exact dw (c _ (by rw[<-a,i];rfl))
  |true=>exact cx (ai (JG d 5 n s.value O O h.2) (c _ (by rw[<-a,i];rfl)))
 subst l;cases e:B with
 |false=>exact ah.some (by rw[b,e];rfl)
 |true=>
  rw[e] at a;simp only[Bool.and_eq_true] at a;refine cx (ai (JH (d:=d) 5 n s.value O O a.2.2) (ah.some ?_));rw[b,e];rfl
def hg(a:List Int):Bool:=decide (1<=a.length/\a.length<=2)&&a.all λd=>decide (1<=d/\d<=6)
def pj(a:List bX)(i:Nat)(x:bX):Bool:=match i with
 |0=>true
 |i+1=>match a[i]? with
  |some y=>Op.bytesLess y.name x.name
  |none=>false
def jG(a:List bX)(i:Nat)(x:bX):Bool:=j1 x.name&&(pj a i x&&hg x.bo)
def gz(a:List bX):Bool:=H1 (jG a) a&&decide (a.length<=4)
def yI(a:List bX):Prop:=a.length<=1100000/\ ∀x∈a,x.bo.length<=1100000
theorem CX{x y:bX}(h:r[i]? =some y):pj r (i+1) x=Op.bytesLess y.name x.name:=by simp only[pj,h]
theorem QK(a:List Int):(a.any λd=> !decide (1<=d/\d<=6))= !(a.all λd=>decide (1<=d/\d<=6)):=by rw[pd];simp
theorem K4(R:6600000<=n){w:List bX}(h:yI w):wy n w=some (gz w):=by
 obtain⟨W,G⟩:=h;refine ah.eq ?_;unfold wy;refine l5 (l:=w) (p:=jG w) O O (λa i x k q s=>?_) (λa m=>?_) (λ⟨i,x,k,v⟩=>?_)
 ·have aG:=(bt.1 k).1;have hm:=G x (bB k);rw[bP (show(i:Int)<(w.length:Int) by omega)];have H:lM n x.bo (λy=>mM n y)=some (!(x.bo.all λd=>decide (1<=d/\d<=6))):=by
   rw[<-QK];exact BM (λd _=>by unfold mM;rw[jK];rfl) O O
  refine dw (ai (bw k) (ah.aW (λz=>z= !jG w i x) (λj c=>ai (CA n _) ?_) λz K=>?_))
  ·unfold jG hg at c;cases A:j1 x.name with
   |false=>exact dw (c _ (by rw[A];rfl))
   |true=>
    rw[A] at c;refine cx ?_;rw[BI];have b:pj w i x=true->ah (Option.bind (some (decide (1<=x.bo.length/\x.bo.length<=2))) λL=>bif !L then j true else Option.bind (lM n x.bo λy=>mM n y) λQ=>j Q) (λr=>r=gz w):=by
     intro v;rw[v] at c;show ah (bif _ then _ else _) _;cases B:decide (1<=x.bo.length/\x.bo.length<=2) with
     |false=>exact dw (c _ (by rw[B];rfl))
     |true=>exact cx (ai H (c _ (by rw[B];rfl)))
    cases i with
    |zero=>exact bb (λh=>a6 h (by decide)) (λ_=>b rfl)
    |succ i=>
     have C:=bg (O:i<w.length);have e:wr (((i+1:Nat):Int)-1)=(i:Int):=by rw[bd O];omega
     rw[e];refine bb (λ_=>ai (bw C) ?_) λh=>a6 (show(0:Int)<((i+1:Nat):Int) by omega) h;have o:=CX (x:=x) C;cases D:Op.bytesLess w[i].name x.name with
     |false=>exact dw (c _ (by rw[o,D];rfl))
     |true=>exact cx (b (by rw[o,D]))
  subst K;cases F:jG w i x with
  |true=>show ah (a _) _;rw[bd O];exact q F
  |false=>exact ah.some (s F)
 ·rw[bA (show¬(w.length:Int)<(w.length:Int) by omega)];refine ah.some ?_;unfold gz;rw[wj m,iu];exact decide_eq_decide.2 O
 unfold gz;rw[m6 k v];rfl
theorem OZ(s:List UInt8):(!Op.bytesLess s [68]&& !s==[68])= !(Op.bytesLess s [68]||s==[68]):=by cases Op.bytesLess s [68]<;>cases (s==[68])<;>rfl
theorem KX(Y:6600000<=n){a:List bX}(h:yI a):wC n a=some (gz a):=by
 obtain⟨h0,u⟩:=h;refine ah.eq ?_;unfold wC;refine l5 (l:=a) (p:=jG a) O O (λq i x v G w=>?_) (λq A=>?_) (λ⟨i,x,v,H⟩=>?_)
 ·have aG:=(bt.1 v).1;have hm:=u x (bB v);rw[bP (show(i:Int)<(a.length:Int) by omega)];refine dw (ai (bw v) (ah.aW (λz=>z= !(j1 x.name&&(pj a i x&&decide (1<=x.bo.length/\x.bo.length<=2)))) (λj c=>?_) λz K=>?_))
  ·refine dL (λE=>c _ ?_) λE=>?_
   ·rw[wH O];rfl
   obtain⟨b,o⟩:=Ab (O:x.name.length=1);rw[OZ];have L: ∀(y:bX),Op.bytesLess y.name x.name=Op.bytesLess y.name [b]:=λy=>by rw[o]
   have Q:j1 x.name=decide (65<=b.toNat/\b.toNat<=68):=by rw[o];rfl
   have I:Op.bytesLess x.name [65]=decide (b.toNat<65):=by rw[o];exact Dh b
   have M:(Op.bytesLess x.name [68]||x.name==[68])=decide (b.toNat<=68):=by rw[o];exact Dg b
   rw[I,M];rw[Q] at c;refine bb (λN=>c _ ?_) λN=>dL (λP=>c _ ?_) λP=>?_
   ·rw[bA (show¬(65<=b.toNat/\b.toNat<=68) by omega)];rfl
   ·rw[bA (show¬(65<=b.toNat/\b.toNat<=68) by omega)];rfl
   rw[bP (O:65<=b.toNat/\b.toNat<=68)] at c;have m:pj a i x=true->ah (bif decide ((x.bo.length:Int)<1) then j true else j (decide ((2:Int)<(x.bo.length:Int)))) (λr=>r=gz a):=by
    intro H;rw[H] at c;refine bb (λh=>c _ ?_) λh=>c _ ?_
    ·rw[bA (show¬(1<=x.bo.length/\x.bo.length<=2) by omega)];rfl
    by_cases h2:x.bo.length<=2
    ·rw[bA (show¬(2:Int)<(x.bo.length:Int) by omega),bP (O:1<=x.bo.length/\x.bo.length<=2)];rfl
    rw[bP (show(2:Int)<(x.bo.length:Int) by omega),bA (show¬(1<=x.bo.length/\x.bo.length<=2) by omega)];rfl
   cases i with
   |zero=>exact bb (λh=>a6 h (by decide)) (λ_=>m rfl)
   |succ i=>
    have X:=bg (O:i<a.length);have e:wr (((i+1:Nat):Int)-1)=(i:Int):=by rw[bd O];omega
    rw[e];refine bb (λ_=>ai (bw X) ?_) λh=>a6 (show(0:Int)<((i+1:Nat):Int) by omega) h;have B:=CX (x:=x) X;cases f:Op.bytesLess a[i].name x.name with
    |false=>exact dw (c _ (by rw[B,f];rfl))
    |true=>exact cx (m (by rw[B,f]))
  subst K;cases o:(j1 x.name&&(pj a i x&&decide (1<=x.bo.length/\x.bo.length<=2))) with
  |false=>
   refine ah.some (w ?_);unfold jG hg;rw[<-kf,<-kf];rw[<-kf] at o;rw[o];rfl
  |true=>
   have C:jG a i x=x.bo.all (λd=>decide (1<=d/\d<=6)):=by
    unfold jG hg;rw[<-kf,<-kf];rw[<-kf] at o;rw[o];rfl
   refine cx ?_;refine ah.loop (λy:Int=> ∃k:Nat,y=k/\k<=x.bo.length/\ ∀(t:Nat) d,t<k->x.bo[t]? =some d->decide (1<=d/\d<=6)=true) (λy=>x.bo.length-y.toNat) ?_ n _ ⟨0,rfl,O,λt d h=>O⟩ bY;rintro F y ⟨k,rfl,hk,g⟩ S;refine bb (λT=>?_) λU=>?_
   ·have cy:=bg (O:k<x.bo.length);have V:wr ((k:Int)+1)=((k+1:Nat):Int):=by rw[bd O];omega
    refine ah.aW (λz=>z= !decide (1<=x.bo[k]/\x.bo[k]<=6)) (λj c=>ai (bw cy) (bb (λh=>c _ ?_) λh=>c _ ?_)) λz K=>?_
    ·rw[bA O];rfl
    ·by_cases h6:x.bo[k]<=6
     ·rw[bA (show¬(6:Int)<x.bo[k] by omega),bP (O:1<=x.bo[k]/\x.bo[k]<=6)];rfl
     rw[bP (show(6:Int)<x.bo[k] by omega),bA (show¬(1<=x.bo[k]/\x.bo[k]<=6) by omega)];rfl
    subst K;cases D:decide (1<=x.bo[k]/\x.bo[k]<=6) with
    |false=>
     refine ah.some (w ?_);rw[C];exact hz.2 ⟨_,bB cy,by rw[D];simp⟩
    |true=>
     rw[V];refine S _ ⟨k+1,rfl,O,λt d R s=>?_⟩ O;by_cases W:t=k
     ·subst W;rw[cy] at s;cases s;exact D
     exact g t d O s
   have e:wr ((i:Int)+1)=(i:Int)+1:=bd O;rw[e];refine G ?_;rw[C];refine fG.2 λd cy=>?_;obtain⟨t,R⟩:=im cy
   have:=(bt.1 R).1;exact g t d O R
 ·rw[bA (show¬(a.length:Int)<(a.length:Int) by omega)];refine ah.some ?_;unfold gz;rw[wj A,iu];exact decide_eq_decide.2 O
 unfold gz;rw[m6 v H];rfl
def gG:List Int->Int
 | []=>1
 |d::a=>d*gG a
theorem zL{d:List Int}(h:hg d=true):(∃a,d=[a]/\1<=a/\a<=6)\/ ∃a b,d=[a,b]/\(1<=a/\a<=6)/\1<=b/\b<=6:=by
 simp only[hg,Bool.and_eq_true,decide_eq_true_eq,List.all_eq_true] at h;obtain⟨⟨e,i⟩,c⟩:=h
 match d,e,i,c with
 | [a],_,_,c=>exact .inl ⟨a,rfl,c a aY⟩
 | [a,b],_,_,c=>exact .inr ⟨a,b,rfl,c a aY,c b aY⟩
theorem Gq{a b:Int}(c:1<=a/\a<=6)(d:1<=b/\b<=6):1<=a*b/\a*b<=36:=by
 constructor
 ·have:=pc c.1 d.1 O O;omega
 have:=pc c.2 d.2 O O;omega
theorem uW{d:List Int}(h:hg d=true):1<=gG d/\gG d<=36:=by
 rcases zL h with ⟨a,rfl,c⟩|⟨a,b,rfl,c,e⟩
 ·simp[gG];omega
 have:=Gq c e;simp[gG];omega
theorem CS(l:6600000<=n){x:bX}(h:hg x.bo=true):xJ n x=some (gG x.bo):=by
 obtain⟨n,rfl⟩: ∃j,n=j+3:=⟨n-3,O⟩
 unfold xJ;rcases zL h with ⟨a,e,d⟩|⟨a,b,e,d,i⟩
 ·rw[e];have c:wr a=a:=bd O;simp[a8,aD,gG,c,show wr 1=1 from bd O]
 rw[e]
 have:=Gq d i;have c:wr a=a:=bd O;have k:wr (a*b)=a*b:=bd O;simp[a8,aD,gG,c,k,show wr 1=1 from bd O,show wr 2=2 from bd O]
theorem OK(a:6600000<=n){x:bX}(h:hg x.bo=true):BH n x=some (gG x.bo):=CS a h
def fF:List aH->List Int->List Int->Int->Int
 |s::b,d::c,p,a=>if 0<=eM s p/\eM s p<d then fF b c p (a*d+eM s p) else-1
 |_,_,_,a=>a
def dO:List bX->bR->List Int->Int->Int
 | [],_,_,_=> -1
 |x::c,a,p,b=>if x.name=a.array then(if a.ak.length=x.bo.length then(if fF a.ak x.bo p 0<0 then-1 else b+fF a.ak x.bo p 0) else-1) else dO c a p (b+gG x.bo)
def kI(a:List bX):Prop:= ∀x∈a,hg x.bo=true
theorem SE{d:List Int}(e:hg d=true){l:List aH}(c:l.length=d.length)(p:List Int):fF l d p 0= -1\/(0<=fF l d p 0/\fF l d p 0<gG d):=by
 rcases zL e with ⟨a,rfl,h⟩|⟨a,b,rfl,h,k⟩
 ·match l,c with
  | [s],_=>
   simp only[fF,gG,Int.zero_mul,Int.zero_add,Int.mul_one];split<;>omega
 match l,c with
 | [s,t],_=>
  simp only[fF,gG,Int.zero_mul,Int.zero_add,Int.mul_one];split
  ·rename_i i;split
   ·rename_i m;refine .inr ⟨?_,?_⟩
    ·have:=mg i.1 (O:0<=b);omega
    have:=Int.mul_le_mul_of_nonneg_right (O:eM s p<=a-1) (O:0<=b);rw[Int.sub_mul] at this;omega
   exact .inl rfl
  exact .inl rfl
def lB(a:List bX):Int:=(a.map λx=>gG x.bo).sum
theorem EZ: ∀{xs:List bX},kI xs-> ∀(a:bR) (p:List Int) (b:Int),0<=b->dO xs a p b= -1\/(b<=dO xs a p b/\dO xs a p b<b+lB xs)
 | [],_,a,p,b,_=> .inl rfl
 |x::xs,i,a,p,b,m=>by
  have k:=i x aY;have hs:=uW k;have c:kI xs:=λy d=>i y (by simp[d]);have n:0<=lB xs:=by
   have:=lp (λx:bX=>gG x.bo) xs λy d=>(uW (c y d)).1;unfold lB;omega
  have e:lB (x::xs)=gG x.bo+lB xs:=by simp[lB]
  rw[e];simp only[dO];split
  ·split
   ·rename_i l;rcases SE k l p with h|h
    ·rw[bh O];exact .inl rfl
    rw[bp O];exact .inr ⟨O,O⟩
   exact .inl rfl
  rcases EZ c a p (b+gG x.bo) O with h|h
  ·exact .inl h
  exact .inr ⟨O,O⟩
theorem j8(h:f8 a d=true):1<=a.ak.length/\a.ak.length<=2/\ ∀x∈a.ak,cX x=true:=by
 simp only[f8,Bool.and_eq_true,decide_eq_true_eq,List.all_eq_true] at h;refine⟨h.2.2.1,h.2.2.2,λx b=>?_⟩
 have:=h.1 x b;simp only[ep,Bool.and_eq_true] at this;exact this.1
theorem nc{k:Type}{l:List k}{x:k}(h:l[i]? =some x):l.drop i=x::l.drop (i+1):=by obtain⟨a,b⟩:=bt.1 h;rw[nD a,b]
theorem Ey{a v:Int}(b:0<=a/\a<=36)(c:1<=d/\d<=6)(e:0<=v/\v<d):0<=a*d/\a*d<=216/\0<=a*d+v:=by have h:=mg b.1 (O:0<=d);have i:=pc b.2 c.2 O O;omega
theorem P'(E:6600000<=n)(I:a.ak.length<=2)(W: ∀x∈a.ak,cX x=true){e:List Int}(L:hg e=true)(M:a.ak.length=e.length){p:List Int}(X:fR k p)(b:Int)(N:0<=b/\b<=500000000):
  a8 (λc ((Q,y):Int×Int)=>bif decide (y<(a.ak.length:Int)) then(Option.bind (aD a.ak y) λf=>Option.bind (kY n f p) λq=>Option.bind (aD e y) λr=>Option.bind (fI n q 0 (wr (r-1))) λA=>bif !A then(some (-1)) else(c (wr ((wr (Q*r))+q),wr (y+1)))) else(some (wr (b+Q)))) n (0,0)
   =some (if fF a.ak e p 0<0 then-1 else b+fF a.ak e p 0):=by
 have B: ∀d∈e,1<=d/\d<=6:=by
  simp only[hg,Bool.and_eq_true,decide_eq_true_eq,List.all_eq_true] at L;exact λd h=>L.2 d h
 refine ah.eq ?_;refine ah.loop (λx:Int×Int=> ∃i:Nat,x.2=i/\i<=a.ak.length/\0<=x.1/\x.1<=36*i/\(i=0->x.1=0)/\(i=1->x.1<=5)/\fF a.ak e p 0=fF (a.ak.drop i) (e.drop i) p x.1) (λx=>a.ak.length-x.2.toNat) ?_ n _ ⟨0,rfl,O,aY,aY,λ_=>rfl,λh=>O,rfl⟩ bY;rintro C ⟨x,z⟩ ⟨i,R,P,D,F,m,s,l⟩ g;dsimp only at R D F m s l⊢;subst R;refine bb (λj=>?_) λt=>ah.some ?_
 ·have hs:=bg (O:i<a.ak.length);have o:=bg (O:i<e.length);have v:=B _ (bB o);have u:wr (e[i]-1)=e[i]-1:=bd O;rw[nc hs,nc o] at l;simp only[fF] at l;refine ai (bw hs) (ai (rR O (W _ (bB hs)) X) (ai (bw o) (ai (jK _ _ _ _) ?_)));rw[u];by_cases G:0<=eM a.ak[i] p/\eM a.ak[i] p<e[i]
  ·rw[bh G] at l;rw[bP (O:0<=eM a.ak[i] p/\eM a.ak[i] p<=e[i]-1)];obtain⟨S,T,U⟩:=Ey (a:=x) O v G;refine cx ?_;rw[bd (n:=x*e[i]) O,bd (n:=x*e[i]+eM a.ak[i] p) O,bd O];have w:i=0\/i=1:=O
   refine g _ ⟨i+1,Z,O,Z,?_,λh=>O,λh=>?_,l⟩ Z
   ·dsimp only;rcases w with rfl|rfl
    ·rw[m rfl];omega
    have:=s rfl
    have:=pc this v.2 O O;omega
   dsimp only
   have:i=0:=O
   subst this;rw[m rfl];omega
  rw[bp G] at l;rw[bA (show¬(0<=eM a.ak[i] p/\eM a.ak[i] p<=e[i]-1) by omega)];refine dw (ah.some ?_);rw[l];rfl
 have H:i=a.ak.length:=O
 have K:fF (a.ak.drop i) (e.drop i) p x=x:=by
  rw[H,nK];unfold fF;rfl
 rw[K] at l;rw[l,bp O,bd O]
theorem O7(P:6600000<=n)(S:1<=a.ak.length)(T:a.ak.length<=2)(t: ∀x∈a.ak,cX x=true){b:List Int}(W:hg b=true){p:List Int}(u:fR k p)(c:Int)(U:0<=c/\c<=500000000):
  a8 (λe ((X,s):Int×Int)=>bif decide (s<(a.ak.length:Int)) then(bif !decide ((a.ak.length:Int)=(b.length:Int)) then(some (-1)) else(Option.bind (aD a.ak s) λE=>Option.bind (k' n E p) λq=>aW (fun(C:Bool)=>bif C then(some (-1)) else(Option.bind (aD b s) λD=>e (wr ((wr (X*D))+q),wr (s+1)))) λv=>bif decide (q<0) then(v true) else(Option.bind (aD b s) λF=>v (decide (F<=q))))) else(some (wr (c+X)))) n (0,0)
   =some (if a.ak.length=b.length then(if fF a.ak b p 0<0 then-1 else c+fF a.ak b p 0) else-1):=by
 by_cases f:a.ak.length=b.length
 ·rw[bh f];rw[bP (show(a.ak.length:Int)=(b.length:Int) by omega)];have G: ∀d∈b,1<=d/\d<=6:=by
   simp only[hg,Bool.and_eq_true,decide_eq_true_eq,List.all_eq_true] at W;exact λd h=>W.2 d h
  refine ah.eq ?_;refine ah.loop (λx:Int×Int=> ∃i:Nat,x.2=i/\i<=a.ak.length/\0<=x.1/\x.1<=36*i/\(i=0->x.1=0)/\(i=1->x.1<=5)/\fF a.ak b p 0=fF (a.ak.drop i) (b.drop i) p x.1) (λx=>a.ak.length-x.2.toNat) ?_ n _ ⟨0,rfl,O,aY,aY,λ_=>rfl,λh=>O,rfl⟩ bY;rintro H ⟨x,z⟩ ⟨i,B,V,K,L,r,w,l⟩ I;dsimp only at B K L r w l⊢;subst B;refine bb (λM=>?_) λN=>ah.some ?_
  ·have hs:=bg (O:i<a.ak.length);have m:=bg (O:i<b.length);have y:=G _ (bB m);rw[nc hs,nc m] at l;simp only[fF] at l;refine cx (ai (bw hs) (ai (rP O (t _ (bB hs)) u) (ah.aW (λz=>z= !decide (0<=eM a.ak[i] p/\eM a.ak[i] p<b[i])) (λj g=>bb (λh=>g _ ?_) λh=>ai (bw m) (g _ ?_)) λz B=>?_)))
   ·rw[bA O];rfl
   ·by_cases o:b[i]<=eM a.ak[i] p
    ·rw[bP o,bA O];rfl
    rw[bA o,bP O];rfl
   subst B;by_cases o:0<=eM a.ak[i] p/\eM a.ak[i] p<b[i]
   ·rw[bh o] at l;rw[bP o];obtain⟨Y,g2,g3⟩:=Ey (a:=x) O y o;refine cx (ai (bw m) ?_);rw[bd (n:=x*b[i]) O,bd (n:=x*b[i]+eM a.ak[i] p) O,bd O];have A:i=0\/i=1:=O
    refine I _ ⟨i+1,Z,O,Z,?_,λh=>O,λh=>?_,l⟩ Z
    ·dsimp only;rcases A with rfl|rfl
     ·rw[r rfl];omega
     have:=w rfl
     have:=pc this y.2 O O;omega
    dsimp only
    have:i=0:=O
    subst this;rw[r rfl];omega
   rw[bp o] at l;rw[bA o];refine dw (ah.some ?_);rw[l];rfl
  have Q:i=a.ak.length:=O
  have R:fF (a.ak.drop i) (b.drop i) p x=x:=by
   rw[Q,nK];unfold fF;rfl
  rw[R] at l;rw[l,bp O,bd O]
 rw[bp f,bA (show¬(a.ak.length:Int)=(b.length:Int) by omega)];obtain⟨n,rfl⟩: ∃j,n=j+1:=⟨n-1,O⟩
 simp only[a8];rw[bP (show(0:Int)<(a.ak.length:Int) by omega)];rfl
theorem xk(v:6600000<=n)(K:p.a'.length<=4)(y:kI p.a')(A:f8 a d=true)(B:fR k q):oo n p a q=some (dO p.a' a q 0):=by
 obtain⟨a0,ay,a2⟩:=j8 A;refine ah.eq ?_;unfold oo;refine ah.loop (λx:Int×Int=> ∃i:Nat,x.2=i/\i<=p.a'.length/\0<=x.1/\x.1<=36*i/\dO p.a' a q 0=dO (p.a'.drop i) a q x.1) (λx=>p.a'.length-x.2.toNat) ?_ n _ ⟨0,rfl,O,aY,aY,rfl⟩ bY;rintro l ⟨x,z⟩ ⟨i,w,L,m,o,b⟩ C;dsimp only at w m o b⊢;subst w;refine bb (λD=>?_) λF=>ah.some ?_
 ·have r:=bg (O:i<p.a'.length);have e:=y _ (bB r);have jh:=uW e;rw[nc r] at b;simp only[dO] at b;refine ai (bw r) (dL (λh=>?_) λG=>?_)
  ·rw[bp h] at b;refine ai (OK v e) ?_;rw[bd (n:=x+gG p.a'[i].bo) O,bd O];exact C _ ⟨i+1,Z,O,Z,Z,b⟩ Z
  rw[bh G] at b;refine dL (λh=>ah.some ?_) λH=>?_
  ·rw[b,bp O]
  have c:a.ak.length=p.a'[i].bo.length:=O
  rw[bh c] at b;exact ah.of (P' v ay a2 e c B x O) b.symm
 have s:i=p.a'.length:=O
 rw[b,s,nK];rfl
theorem DA(s:6600000<=n)(G:r.length<=4)(w:kI r)(y:f8 a d=true)(A:fR k q):tx n r a q=some (dO r a q 0):=by
 obtain⟨a0,ay,a2⟩:=j8 y;refine ah.eq ?_;unfold tx;refine ah.loop (λx:Int×Int=> ∃i:Nat,x.2=i/\i<=r.length/\0<=x.1/\x.1<=36*i/\dO r a q 0=dO (r.drop i) a q x.1) (λx=>r.length-x.2.toNat) ?_ n _ ⟨0,rfl,O,aY,aY,rfl⟩ bY;rintro e ⟨x,z⟩ ⟨i,v,H,h,l,b⟩ B;dsimp only at v h l b⊢;subst v;refine bb (λC=>?_) λD=>ah.some ?_
 ·have m:=bg (O:i<r.length);have c:=w _ (bB m);have jh:=uW c;rw[nc m] at b;simp only[dO] at b;refine ai (bw m) (dL (λo=>?_) λF=>?_)
  ·rw[bp o] at b;refine ai (CS s c) ?_;rw[bd (n:=x+gG r[i].bo) O,bd O];exact B _ ⟨i+1,Z,O,Z,Z,b⟩ Z
  rw[bh F] at b;exact ah.of (O7 s a0 ay a2 c A x O) b.symm
 have p:i=r.length:=O
 rw[b,p,nK];rfl
def ei:Nat->Expr->List bR
 |0,_=>[]
 |L+1,e=>(if e.kind=3 then [e.read] else [])++e.aJ.flatMap (ei L)
theorem yc{d:Int}: ∀{L:Nat} {e:Expr},dR L e d=true-> ∀a∈ei L e,f8 a d=true
 |0,e,h,a,b=>by cases h
 |L+1,e,h,a,b=>by
  obtain⟨n,c,l⟩:=jj h;simp only[ei,List.mem_append,List.mem_flatMap] at b;rcases b with b|⟨k,m,b⟩
  ·split at b
   ·rename_i i;simp at b;subst b;unfold eS at c;rw[bp O,bh i] at c;simp only[Bool.and_eq_true] at c;exact c.2.2
   simp at b
  exact yc (l k m) a b
theorem xf: ∀(L:Nat) (e:Expr),((ei L e).length:Int)<=dW L e
 |0,e=>by simp[ei,dW]
 |L+1,e=>by
  have h: ∀(l:List Expr),((l.flatMap (ei L)).length:Int)<=(l.map (dW L)).sum:=by
   intro l;induction l with
   |nil=>simp
   |cons k l a=>
    have:=xf L k;simp only[List.flatMap_cons,List.length_append,List.map_cons,List.sum_cons];omega
  have:=h e.aJ;simp only[ei,dW,List.length_append];split
  ·rw[pe];omega
  rw[List.length_nil];omega
theorem Cn{d:Int}: ∀(L n:Nat) (e:Expr),6600000+L<=n->L<=5->dR L e d=true->mT (n+1) e=some (ei L e)
 |0,n,e,_,_,h=>by cases h
 |L+1,n,e,A,s,h=>by
  obtain⟨B,C,r⟩:=jj h;have v:=l3 e.kind;unfold mT;refine ah.eq (bb (λb=>ah.some ?_) λl=>?_)
  ·have:e.aJ=[]:=by
    have D:fx e.kind=0:=by unfold fx;rw[bh (Or.inr (Or.inr b))]
    exact iQ O
   simp[ei,b,this]
  obtain⟨n,rfl⟩: ∃j,n=j+1:=⟨n-1,O⟩
  have m: ∀k∈e.aJ,((ei L k).length:Int)<=100:=λk c=>by
   have F:=uI (r k c);have G:(2:Int)^L<=40:=by
    match L,s with
    |0,_=>decide
    |1,_=>decide
    |2,_=>decide
    |3,_=>decide
    |4,_=>decide
   have:=xf L k;omega
  refine ah.loop (λx:List bR×Int=> ∃i:Nat,x.2=i/\i<=e.aJ.length/\x.1=(e.aJ.take i).flatMap (ei L)/\(x.1.length:Int)<=100*i) (λx=>e.aJ.length-x.2.toNat) ?_ (n+1) _ ⟨0,rfl,O,aY,aY⟩ bY;rintro o ⟨x,k⟩ ⟨i,c,H,p,q⟩ w;dsimp only at c p q⊢;subst c;refine bb (λy=>?_) λz=>ah.some ?_
  ·have a:=bg (O:i<e.aJ.length);have hm:=bB a;have aR:=m _ hm;refine ai (bw a) (ai (Cn (d:=d) L n _ O O (r _ hm)) (ai (ej O) ?_));rw[bd O];refine w _ ⟨i+1,Z,O,?_,by dsimp only;rw[dq];omega⟩ Z;dsimp only;rw[eG,a,lv,p];simp
  have:i=e.aJ.length:=O
  rw[p,this,dA];simp[ei,l]
theorem Cs(n:Nat){a:aH}(h:a.ao.length<=1100000):d8 n a=some a:=by
 unfold d8;refine ah.eq (bb (λb=>ah.some ?_) λb=>ai (kx _ h) (ah.some rfl));obtain⟨cs,c⟩:=a
 have:cs=[]:=iQ (by simpa using b);subst this;rfl
theorem Ct(p:5500000<=n)(h:iW a.ak):qf n a=some a:=by
 obtain⟨q,e⟩:=h;refine ah.eq ?_;unfold qf;refine ah.loop (λx:List aH×Int=> ∃i:Nat,x.2=i/\i<=a.ak.length/\x.1=a.ak.take i) (λx=>a.ak.length-x.2.toNat) ?_ n _ ⟨0,rfl,O,aY⟩ bY;rintro c ⟨x,k⟩ ⟨i,d,r,b⟩ l;dsimp only at d b⊢;subst d;refine bb (λm=>?_) λo=>ah.some ?_
 ·have hs:=bg (O:i<a.ak.length);have s:x.length=i:=by rw[b,dz];omega
  refine ai (bw hs) (ai (Cs n (e _ (bB hs))) (ai (ej bY) ?_));rw[bd O];refine l _ ⟨i+1,Z,O,?_⟩ Z;dsimp only;rw[eG,hs,b];rfl
 have:i=a.ak.length:=O
 rw[b,this,dA]
theorem QU{l:List aH}(d:l.length<=2)(b: ∀a∈l,cX a=true):iW l:=⟨O,λa c=>by have:=(iG (b a c)).1;unfold ko;omega⟩
theorem Da{d:Int}: ∀(L n:Nat) (e:Expr) (out:List bR),6600000+L<=n->L<=5->dR L e d=true->(out.length:Int)<=1100000+200*(6-(L:Int))->o' (n+1) out e=some (out++ei L e)
 |0,n,e,out,_,_,h,_=>by cases h
 |L+1,n,e,out,K,y,h,Q=>by
  obtain⟨R,W,s⟩:=jj h;have A:=l3 e.kind;unfold o';refine ah.eq (ah.aW (λz=>z=out++(if e.kind=3 then [e.read] else [])) (λj v=>bb (λa=>?_) λm=>v _ (by rw[bp m];simp)) λz w=>?_)
  ·have B:=yc h e.read (by simp[ei,a]);obtain⟨_,C,D⟩:=j8 B;exact ai (Ct O (QU C D)) (ai (ej bY) (v _ (by rw[bh a])))
  subst w;obtain⟨n,rfl⟩: ∃j,n=j+1:=⟨n-1,O⟩
  by_cases a:e.kind=3
  ·have b:e.aJ=[]:=by
    have w:fx e.kind=0:=by unfold fx;rw[bh (Or.inr (Or.inr a))]
    exact iQ O
   rw[b];refine ah.some ?_;simp[ei,a,b]
  have o: ∀k∈e.aJ,((ei L k).length:Int)<=100:=λk l=>by
   have X:=uI (s k l);have f:(2:Int)^L<=40:=by
    match L,y with
    |0,_=>decide
    |1,_=>decide
    |2,_=>decide
    |3,_=>decide
    |4,_=>decide
   have:=xf L k;omega
  rw[bp a,kd];refine ah.loop (λx:List bR×Int=> ∃i:Nat,x.2=i/\i<=e.aJ.length/\x.1=out++(e.aJ.take i).flatMap (ei L)/\(x.1.length:Int)<=out.length+100*i) (λx=>e.aJ.length-x.2.toNat) ?_ (n+1) _ ⟨0,rfl,O,aY,aY⟩ bY;rintro p ⟨x,k⟩ ⟨i,l,g,q,r⟩ F;dsimp only at l q r⊢;subst l;refine bb (λG=>?_) λH=>ah.some ?_
  ·have c:=bg (O:i<e.aJ.length);have hm:=bB c;have aR:=o _ hm;refine ai (bw c) (ai (Da (d:=d) L n _ x O O (s _ hm) O) ?_);rw[bd O];refine F _ ⟨i+1,Z,O,?_,by dsimp only;rw[dq];omega⟩ Z;dsimp only;rw[eG,c,lv,q];simp
  have:i=e.aJ.length:=O
  rw[q,this,dA];simp[ei,a]
theorem FD{o:List Loop}(b:Fit o): ∀(bD:List Loop) (k:Nat) (p q:List Int),o.drop k=bD->k<=o.length->fR k p->q∈eA bD p->fR o.length q
 | [],k,p,q,c,e,d,a=>by
  have:=tW c e;simp only[eA,List.mem_singleton] at a;subst a;subst this;exact d
 |l::bD,k,p,q,c,e,d,a=>by obtain⟨h,i,w⟩:=xm c;obtain⟨m,n⟩:=b.2 k l h;have r:=b.1;simp only[eA,List.mem_flatMap] at a;obtain⟨v,s,a⟩:=a;exact FD b bD (k+1) _ q i O (uh m n d O (Ru.1 s)) a
theorem og{o:List Loop}{z:List (List Int)}(h:hD o=some z):Fit o/\z.length<=120/\(∀q∈z,fR o.length q)/\z=eA o []/\eE o []<=1200:=by
 unfold hD at h;split at h
 ·rename_i a;cases h;have b:=uV a.1;exact⟨b,a.2.2,λq c=>FD b o 0 [] q rfl O tc c,rfl,a.2.1⟩
 cases h
def fJ(b:List bX)(s:Stmt)(q:List Int):Bool:=decide (0<=dO b s.write q 0)&&(ei 5 s.value).all λa=>decide (0<=dO b a q 0)
theorem jY(h:eL s d=true):f8 s.write d=true/\dR 5 s.value d=true/\(∀a∈ei 5 s.value,f8 a d=true)/\(ei 5 s.value).length<=12:=by
 simp only[eL,Bool.and_eq_true,decide_eq_true_eq] at h;obtain⟨_,c,b,e⟩:=h
 have:=xf 5 s.value;exact⟨c,b,yc b,O⟩
theorem LW(B:7700000<=n)(c:p.a'.length<=4)(e:kI p.a')(o:eL s d=true)(i:fR k q):vC n p s q=some (fJ p.a' s q):=by
 obtain⟨r,v,w,C⟩:=jY o;obtain⟨n,rfl⟩: ∃j,n=j+1:=⟨n-1,O⟩
 refine ah.eq ?_;unfold vC;generalize b:fJ p.a' s q=T;unfold fJ at b;refine ah.aW (λz=>z=T) (λj m=>ai (xk O c e r i) (bb (λh=>?_) λh=>m _ ?_)) λz x=>ah.some x
 ·have bj:=J2 (n:=n+1) (f:=λy=>r3 (n+1) y p q) (p:=λa=>decide (dO p.a' a q 0<0)) (l:=ei 5 s.value)
   (λa A=>by unfold r3;rw[xk O c e (w a A) i];rfl) O O
  refine ai (Cn (d:=d) 5 n s.value O O v) (ai bj (m _ ?_));rw[<-b,bP h,iu,pd];congr 1;apply congrArg λf=>List.any (ei 5 s.value) f;funext a;rw[vP]
 rw[<-b,bA h];rfl
theorem JF(u:7700000<=n)(B:r.length<=4)(C:kI r)(G:eL s d=true)(D:fR k q):
  qG n r s q=some (if fJ r s q=true then((ei 5 s.value).map λa=>dO r a q 0,dO r s.write q 0,true) else([],0,false)):=by
 obtain⟨H,K,L,E⟩:=jY G;obtain⟨n,rfl⟩: ∃j,n=j+1:=⟨n-1,O⟩
 refine ah.eq ?_;unfold qG;refine ai (Da (d:=d) 5 n s.value [] O O K aY) ?_;rw[List.nil_append];generalize Q:ei 5 s.value=R at*;have c:fJ r s q=(decide (0<=dO r s.write q 0)&&R.all λa=>decide (0<=dO r a q 0)):=by unfold fJ;rw[Q]
 refine ah.loop (λx:List Int×Int=> ∃i:Nat,x.2=i/\i<=R.length/\x.1=(R.take i).map (λa=>dO r a q 0)/\ ∀(t:Nat) a,t<i->R[t]? =some a->0<=dO r a q 0) (λx=>R.length-x.2.toNat) ?_ (n+1) _ ⟨0,rfl,O,aY,λt a h=>O⟩ Z;rintro p ⟨x,z⟩ ⟨i,F,I,o,v⟩ W;dsimp only at F o v⊢;subst F;refine bb (λX=>?_) λf=>?_
 ·have bE:=bg (O:i<R.length);have hm:=bB bE;refine ai (bw bE) (ai (DA O B C (L _ hm) D) (bb (λe=>ah.some ?_) λl=>?_))
  ·rw[bp];rw[c];intro h;rw[q8] at h
   have:=fG.1 h.2 _ hm;rw[decide_eq_true_eq] at this;omega
  have g:x.length<=12:=by rw[o,dI,dz];omega
  refine ai (ej bY) ?_;rw[bd O];refine W _ ⟨i+1,Z,O,?_,λt a w b=>?_⟩ Z
  ·dsimp only;rw[eG,bE,jy,o];rfl
  by_cases y:t=i
  ·subst y;rw[bE] at b;cases b;omega
  exact v t a O b
 have A:i=R.length:=O
 have m:R.all (λa=>decide (0<=dO r a q 0))=true:=fG.2 (λa hm=>by
  obtain⟨t,w⟩:=im hm
  have:=(bt.1 w).1;exact bP (v t a O w))
 rw[c,m,Bool.and_true];refine ai (DA O B C H D) (bb (λe=>ah.some ?_) λl=>ah.some ?_)
 ·rw[bp (by rw[decide_eq_true_eq];omega)]
 rw[bh (by rw[decide_eq_true_eq];omega),o,A,dA]
def hT(q:List Int):Bool:=decide (q.length<=4)&&q.all λx=>decide (-9999<=x/\x<=9999)
theorem LF(b:5500000<=n)(h:q.length<=1100000):xj n q=some (hT q):=by
 unfold xj hT;have bj:=BM (n:=n) (f:=λa=>sP n a) (p:=λx=> !decide (-9999<=x/\x<=9999)) (l:=q) (λx _=>by unfold sP;rw[jK];rfl) O O;simp only[aW,Option.bind];rw[bj];have e:(q.any λx=> !decide (-9999<=x/\x<=9999))= !(q.all λx=>decide (-9999<=x/\x<=9999)):=by rw[pd];simp
 rw[e,show decide ((q.length:Int)<=4)=decide (q.length<=4) from decide_eq_decide.2 O];cases decide (q.length<=4)<;>simp
theorem LB(r:5500000<=n)(h:q.length<=1100000):xb n q=some (hT q):=by
 refine ah.eq ?_;unfold xb;refine l5 (l:=q) (p:=λ_ x=>decide (-9999<=x/\x<=9999)) O O (λa i x d k m=>?_) (λa b=>?_) (λ⟨i,x,d,e⟩=>?_)
 ·have aG:=(bt.1 d).1;rw[bP (show(i:Int)<(q.length:Int) by omega)];refine dw (ai (bw d) (ai (BU n x 9999 O) ?_));cases e:decide (-9999<=x/\x<=9999) with
  |true=>show ah (a _) _;rw[bd O];exact k e
  |false=>exact ah.some (m e)
 ·rw[bA (show¬(q.length:Int)<(q.length:Int) by omega)];refine ah.some ?_;unfold hT;rw[fG.2 (λc o=>by obtain⟨i,aG⟩:=im o;exact b i c aG),Bool.and_true];exact decide_eq_decide.2 O
 unfold hT;rw[hz.2 ⟨x,bB d,by rw[e];simp⟩,mh]
theorem Ev{k:Type}(p q:k->Bool): ∀l:List k,(l.all p&&l.all q)=l.all (λx=>p x&&q x)
 | []=>rfl
 |x::l=>by simp only[List.all_cons,<-Ev p q l];cases p x<;>cases q x<;>cases l.all p<;>cases l.all q<;>rfl
def lF(a:Part):Bool:=decide (1<=a.body.length/\a.body.length<=4)&&a.body.all λs=>eL s (a.nest.length:Int)
def hM(a:Part):List (List Int):=(hD a.nest).getD []
def eC(b:List bX)(a:Part):Bool:=(hD a.nest).isSome&&(lF a&&a.body.all λs=>(hM a).all λq=>fJ b s q&&hT q)
def zG(x:Part):Prop:=pD x.nest/\x.body.length<=1100000/\ ∀s∈x.body,uA s
def iY(p:Prog):Prop:=yI p.a'/\p.parts.length<=1100000/\ ∀x∈p.parts,zG x
theorem kF(h:eC r x=true):hD x.nest=some (hM x)/\(1<=x.body.length/\x.body.length<=4)/\(∀s∈x.body,eL s (x.nest.length:Int)=true)/\ ∀s∈x.body,∀q∈hM x,fJ r s q=true/\hT q=true:=by
 simp only[eC,lF,Bool.and_eq_true,decide_eq_true_eq,List.all_eq_true] at h;refine⟨?_,h.2.1.1,h.2.1.2,h.2.2⟩;unfold hM;cases a:hD x.nest with
 |none=>rw[a] at h;simp at h
 |some b=>rfl
theorem zF{list:List bX}(h:gz list=true):list.length<=4/\kI list:=by
 simp only[gz,Bool.and_eq_true,decide_eq_true_eq] at h;refine⟨h.2,λx a=>?_⟩;obtain⟨i,b⟩:=im a
 have:=Cm h.1 b;simp only[jG,Bool.and_eq_true] at this;exact this.2.2
theorem L'(cj:7700000<=n){a:List bX}(N:a.length<=4)(P:kI a)(S:zG x):
  xK n a x=some (if eC a x=true then(((hM x).length:Int)*(x.body.length:Int),true) else(0,false)):=by
 obtain⟨U,h2,V⟩:=S;refine ah.eq ?_;unfold xK;generalize u:(if eC a x=true then(((hM x).length:Int)*(x.body.length:Int),true) else((0:Int),false))=T;refine ai (JZ O U) ?_;have c:eC a x=false->((0:Int),false)=T:=λh=>by rw[<-u,h];rfl
 refine ah.aW (λz=>z= !((hD x.nest).isSome&&decide (1<=x.body.length/\x.body.length<=4))) (λj l=>?_) λz L=>?_
 ·cases m:hD x.nest with
  |none=>exact dw (l _ (by rw[m];rfl))
  |some b=>
   refine cx (bb (λh=>l _ ?_) λh=>l _ ?_)
   ·rw[m,bA O];rfl
   rw[m];by_cases h4:x.body.length<=4
   ·rw[bA (show¬(4:Int)<(x.body.length:Int) by omega),bP O];rfl
   rw[bP (show(4:Int)<(x.body.length:Int) by omega),bA O];rfl
 subst L;cases m:hD x.nest with
 |none=>exact ah.some (c (by unfold eC;rw[m];rfl))
 |some b=>
  obtain⟨gd,Y,Q,US,UT⟩:=og m;have w:hM x=b:=by unfold hM;rw[m];rfl
  by_cases H:1<=x.body.length/\x.body.length<=4
  ·rw[bP H];refine cx ?_;have o:eC a x=x.body.all (λs=>eL s (x.nest.length:Int)&&b.all λq=>fJ a s q&&hT q):=by
    unfold eC lF;rw[m,w,bP H,Option.isSome_some,iu,iu];exact Ev _ _ _
   refine ah.loop (λy:Int=> ∃i:Nat,y=i/\i<=x.body.length/\ ∀(t:Nat) s,t<i->x.body[t]? =some s->(eL s (x.nest.length:Int)&&b.all λq=>fJ a s q&&hT q)=true) (λy=>x.body.length-y.toNat) ?_ n _ ⟨0,rfl,O,λt s h=>O⟩ bY;rintro R y ⟨i,rfl,aG,E⟩ bH;refine bb (λhlt=>?_) λjR=>ah.some ?_
   ·have bE:=bg (O:i<x.body.length);have hm:=bB bE;refine ai (bw bE) (ai (J' O (V _ hm) _) ?_);cases e:eL x.body[i] (x.nest.length:Int) with
    |false=>
     refine dw (ah.some (c ?_));rw[o];exact hz.2 ⟨_,hm,by rw[e];simp⟩
    |true=>
     refine cx ?_;show ah (a8 (λd (tK:Int)=>bif decide (tK<(b.length:Int)) then _ else _) n 0) _;refine ah.loop (λy:Int=> ∃k:Nat,y=k/\k<=b.length/\ ∀(t:Nat) q,t<k->b[t]? =some q->(fJ a x.body[i] q&&hT q)=true) (λy=>b.length-y.toNat) ?_ n _ ⟨0,rfl,O,λt s h=>O⟩ bY;rintro d y ⟨k,rfl,hk,A⟩ W;refine bb (λI=>?_) λM=>?_
     ·have p:=bg (O:k<b.length);have B:=bB p;have C:=Q _ B;have X:b[k].length<=1100000:=by have:=C.1;have:=C.2.1;omega
      refine ai (bw p) (ai (JF O N P e C) (ah.aW (λz=>z= !(fJ a x.body[i] b[k]&&hT b[k])) (λj l=>?_) λz L=>?_))
      ·cases D:fJ a x.body[i] b[k] with
       |false=>
        rw[D] at l;exact dw (l _ rfl)
       |true=>
        rw[D] at l;exact cx (ai (LB O X) (l _ rfl))
      subst L;cases D:(fJ a x.body[i] b[k]&&hT b[k]) with
      |false=>
       refine ah.some (c ?_);rw[o];refine hz.2 ⟨_,hm,?_⟩;rw[e,iu];rw[hz.2 ⟨_,B,by rw[D];simp⟩];simp
      |true=>
       show ah (d _) _;rw[bd O];refine W _ ⟨k+1,O,O,λt q K r=>?_⟩ O;by_cases f:t=k
       ·subst f;rw[p] at r;cases r;exact D
       exact A t q O r
     rw[bd O];refine bH _ ⟨i+1,O,O,λt s K v=>?_⟩ O;by_cases g:t=i
     ·subst g;rw[bE] at v;cases v;rw[e,iu];refine fG.2 λq C=>?_;obtain⟨ju,F⟩:=im C
      have:=(bt.1 F).1;exact A ju q O F
     exact E t s O v
   have G:eC a x=true:=by
    rw[o];refine fG.2 λs hs=>?_;obtain⟨t,K⟩:=im hs
    have:=(bt.1 K).1;exact E t s O K
   rw[<-u,G,bh rfl,w];show(wr ((b.length:Int)*(x.body.length:Int)),true)=_;have kB:(0:Int)<=(b.length:Int)*(x.body.length:Int):=mg O O;have GS:(b.length:Int)*(x.body.length:Int)<=120*4:=pc O O O O;rw[bd O]
  rw[bA H];refine ah.some (c ?_);unfold eC lF;rw[bA H];simp
def f9(x:Part):Int:=((hM x).length:Int)*(x.body.length:Int)
def k8(i:Nat)(x:Part):List cv:=(hM x).flatMap λq=>(List.range x.body.length).map fun(k:Nat)=>(⟨(i:Int),(k:Int),q⟩:cv)
def cz(a:List Part):List cv:=a.zipIdx.flatMap λy=>k8 y.2 y.1
def iN(p:Prog):Bool:=gz p.a'&&(decide (p.parts.length<=4)&&p.parts.all (eC p.a'))
def c'(p:Prog):Bool:=iN p&&decide ((p.parts.map f9).sum<=120)
theorem Vp(l:List Part)(x:Part):cz (l++[x])=cz l++k8 l.length x:=by unfold cz;rw[List.zipIdx_append,lv];simp
theorem Bd(h:l[i]? =some x):cz (l.take (i+1))=cz (l.take i)++k8 i x:=by have aG:=(bt.1 h).1;rw[eG,h];show cz (l.take i++[x])=_;rw[Vp,dz,Nat.min_eq_left (Nat.le_of_lt aG)]
theorem tU{k R:Type}(f:k->List R)(m:Nat)(h: ∀x,(f x).length=m): ∀l:List k,(l.flatMap f).length=l.length*m
 | []=>aY
 |x::l=>by rw[List.flatMap_cons,dq,h,tU f m h l,List.length_cons,dM];omega
theorem Bb(i:Nat)(x:Part):((k8 i x).length:Int)=f9 x:=by unfold k8 f9;rw[tU _ x.body.length λq=>aY];exact Int.natCast_mul _ _
theorem Ep(h:l[i]? =some x):((l.take (i+1)).map f9).sum=((l.take i).map f9).sum+f9 x:=by rw[eG,h];simp
theorem Hu: ∀(l:List Part) (i:Nat),i<=l.length->((cz (l.take i)).length:Int)=((l.take i).map f9).sum
 |l,0,_=>by simp[cz]
 |l,i+1,h=>by
  have bE:=bg (O:i<l.length);rw[Bd bE,dq,Ep bE]
  have:=Hu l i O
  have:=Bb i l[i];omega
theorem Bc(l:List Part):((cz l).length:Int)=(l.map f9).sum:=by
 have:=Hu l l.length (cL _)
 rwa [dA] at this
theorem yp(h:eC r x=true):0<=f9 x/\f9 x<=480:=by
 obtain⟨a,b,_⟩:=kF h;obtain⟨_,c,_⟩:=og a;unfold f9;refine⟨mg O O,?_⟩
 have:=pc (show((hM x).length:Int)<=120 by omega) (show(x.body.length:Int)<=4 by omega) O O;omega
theorem Bi(f:7700000<=n)(D:iY p):sC n p=some (c' p):=by
 obtain⟨F,g,G⟩:=D;refine ah.eq ?_;unfold sC;generalize o:c' p=T;unfold c' iN at o;refine ah.aW (λz=>z= !(gz p.a'&&decide (p.parts.length<=4))) (λj A=>ai (KX O F) ?_) λz l=>?_
 ·cases d:gz p.a' with
  |false=>exact dw (A _ (by rw[d];rfl))
  |true=>
   refine cx (A _ ?_);rw[d];by_cases B:p.parts.length<=4
   ·rw[bA (show¬(4:Int)<(p.parts.length:Int) by omega),bP B];rfl
   rw[bP (show(4:Int)<(p.parts.length:Int) by omega),bA B];rfl
 subst l;cases m:(gz p.a'&&decide (p.parts.length<=4)) with
 |false=>
  refine ah.some ?_;rw[<-o,<-kf,m];rfl
 |true=>
  have e:T=(p.parts.all (eC p.a')&&decide ((p.parts.map f9).sum<=120)):=by rw[<-o,<-kf,m];rfl
  rw[q8,decide_eq_true_eq] at m;obtain⟨H,K⟩:=zF m.1;refine cx ?_;refine ah.loop (λx:Int×Int=> ∃i:Nat,x.2=i/\i<=p.parts.length/\x.1=((p.parts.take i).map f9).sum/\0<=x.1/\x.1<=480*i/\ ∀(t:Nat) y,t<i->p.parts[t]? =some y->eC p.a' y=true) (λx=>p.parts.length-x.2.toNat) ?_ n _ ⟨0,rfl,O,aY,aY,aY,λt y h=>O⟩ Z;rintro a ⟨x,z⟩ ⟨i,l,u,C,q,r,d⟩ L;dsimp only at l C q r d⊢;subst l;refine bb (λQ=>?_) λR=>ah.some ?_
  ·have bE:=bg (O:i<p.parts.length);have hm:=bB bE;refine ai (bw bE) (ai (L' O H K (G _ hm)) ?_);cases b:eC p.a' p.parts[i] with
   |false=>
    rw[bp aY];refine ah.some ?_;rw[e,hz.2 ⟨_,hm,by rw[b];simp⟩];rfl
   |true=>
    rw[bh rfl];have W:=yp b;show ah (a (wr (x+f9 p.parts[i]),wr ((i:Int)+1))) _;rw[bd (n:=x+f9 p.parts[i]) O,bd O];refine L _ ⟨i+1,Z,O,by dsimp only;rw[Ep bE];omega,Z,Z,λt y s c=>?_⟩ Z;by_cases v:t=i
    ·subst v;rw[bE] at c;cases c;exact b
    exact d t y O c
  have w:i=p.parts.length:=O
  have k:p.parts.all (eC p.a')=true:=fG.2 (λy X=>by
   obtain⟨t,s⟩:=im X
   have:=(bt.1 s).1;exact d t y O s)
  rw[e,k,iu,C,w,dA]
theorem Ia{R:Type}(f:Nat->R)(k:Nat):(List.range (k+1)).map f=(List.range k).map f++[f k]:=by rw[pf,jy];rfl
theorem I6(cj:7700000<=n)(hp:iY p):p3 n p=some (if iN p=true then(cz p.parts,decide ((cz p.parts).length<=120)) else([],false)):=by
 obtain⟨h1,h2,h3⟩:=hp;refine ah.eq ?_;unfold p3;generalize iE:(if iN p=true then(cz p.parts,decide ((cz p.parts).length<=120)) else([],false))=T;have a:iN p=false->(([]:List cv),false)=T:=λh=>by rw[<-iE,h];rfl
 refine ah.aW (λz=>z= !(gz p.a'&&decide (p.parts.length<=4))) (λj E=>ai (K4 O h1) ?_) λz c=>?_
 ·cases I:gz p.a' with
  |false=>exact dw (E _ (by rw[I];rfl))
  |true=>
   refine cx (E _ ?_);rw[I];by_cases h4:p.parts.length<=4
   ·rw[bA (show¬(4:Int)<(p.parts.length:Int) by omega),bP h4];rfl
   rw[bP (show(4:Int)<(p.parts.length:Int) by omega),bA h4];rfl
 subst c;cases aR:(gz p.a'&&decide (p.parts.length<=4)) with
 |false=>exact ah.some (a (by unfold iN;rw[<-kf,aR];rfl))
 |true=>
  have d:iN p=p.parts.all (eC p.a'):=by unfold iN;rw[<-kf,aR];rfl
  rw[q8,decide_eq_true_eq] at aR;obtain⟨cc,cy⟩:=zF aR.1;refine cx ?_;refine ah.loop (λx:List cv×Int=> ∃i:Nat,x.2=i/\i<=p.parts.length/\x.1=cz (p.parts.take i)/\x.1.length<=480*i/\ ∀(t:Nat) y,t<i->p.parts[t]? =some y->eC p.a' y=true) (λx=>p.parts.length-x.2.toNat) ?_ n _ ⟨0,rfl,O,by simp[cz],aY,λt y h=>O⟩ Z;rintro again ⟨x,z⟩ ⟨i,c,aG,hx,Ve,I⟩ bH;dsimp only at c hx Ve I⊢;subst c;refine bb (λhlt=>?_) λjR=>ah.some ?_
  ·have bE:=bg (O:i<p.parts.length);have hm:=bB bE;obtain⟨s1,s2,Wn⟩:=h3 _ hm;generalize sg:p.parts[i]=P at*;have r:eC p.a' P=false->iN p=false:=λh=>by rw[d];exact hz.2 ⟨_,hm,by rw[h];simp⟩
   refine ai (bw bE) (ai (J1 O s1) (ah.aW (λz=>z= !((hD P.nest).isSome&&lF P)) (λj E=>?_) λz c=>?_))
   ·cases w:hD P.nest with
    |none=>exact dw (E _ (by rw[w];rfl))
    |some b=>
     refine cx ?_;have hw:fI n (P.body.length:Int) 1 4=some (decide (1<=P.body.length/\P.body.length<=4)):=by
      rw[jK];congr 1;exact decide_eq_decide.2 O
     refine ai hw ?_;have bj:=K6 (n:=n) (f:=λni=>r0 n ni P) (p:=λs=> !eL s (P.nest.length:Int)) (l:=P.body) (λs M=>by unfold r0;rw[Kc O (Wn s M)];rfl) O O;have e:(P.body.any λs=> !eL s (P.nest.length:Int))= !(P.body.all λs=>eL s (P.nest.length:Int)):=by rw[pd];simp
     cases N:decide (1<=P.body.length/\P.body.length<=4) with
     |false=>exact dw (E _ (by unfold lF;rw[w,N];rfl))
     |true=>exact cx (ai bj (E _ (by unfold lF;rw[w,N,e];rfl)))
   subst c;cases w:hD P.nest with
   |none=>exact ah.some (a (r (by unfold eC;rw[w];rfl)))
   |some b=>
    obtain⟨gd,Xx,UR,US,UT⟩:=og w;have S:hM P=b:=by unfold hM;rw[w];rfl
    cases D:lF P with
    |false=>exact ah.some (a (r (by unfold eC;rw[D];simp)))
    |true=>
     have A:=D;simp only[lF,Bool.and_eq_true,decide_eq_true_eq,List.all_eq_true] at A;obtain⟨⟨kB,GS⟩,T8⟩:=A;have F:eC p.a' P=P.body.all (λs=>b.all λq=>fJ p.a' s q&&hT q):=by
      unfold eC;rw[w,D,S];rfl
     let row:List Int->List cv:=λq=>(List.range P.body.length).map fun(k:Nat)=>(⟨(i:Int),(k:Int),q⟩:cv)
     have hrl: ∀q,(row q).length=P.body.length:=λq=>by simp[row]
     have o:k8 i P=b.flatMap row:=by unfold k8;rw[S]
     refine cx ?_;rw[show(ob (some b)).1=b from rfl];refine ah.loop (λy:List cv×Int=> ∃k:Nat,y.2=k/\k<=b.length/\y.1=x++(b.take k).flatMap row/\ ∀(t:Nat) q,t<k->b[t]? =some q->hT q=true/\ ∀s∈P.body,fJ p.a' s q=true) (λy=>b.length-y.2.toNat) ?_ n _ ⟨0,rfl,O,aY,λt q h=>O⟩ Z;rintro U ⟨y,z⟩ ⟨k,c,hk,G,H⟩ V;dsimp only at c G H⊢;subst c;refine bb (λhlt2=>?_) λXp=>?_
     ·have v:=bg (O:k<b.length);have K:=bB v;generalize AE:b[k]=Q at*;have Y:=UR _ K;have UU:Q.length<=4:=by have:=Y.1;have:=Y.2.1;omega
      refine ai (bw v) (ai (LF O O) ?_);have Vg:y.length<=480*4+480:=by
       rw[G,dq,tU row _ hrl,dz]
       have:min k b.length*P.body.length<=120*4:=mf O GS;omega
      cases Hi:hT Q with
      |false=>
       refine dw (ah.some (a (r ?_)));rw[F];obtain⟨BL,U2⟩: ∃BL,BL∈P.body:=List.exists_mem_of_length_pos O;refine hz.2 ⟨BL,U2,?_⟩;rw[hz.2 ⟨Q,K,by rw[Hi];simp⟩];simp
      |true=>
       refine cx ?_;refine ah.loop (λu:List cv×Int=> ∃m:Nat,u.2=m/\m<=P.body.length/\u.1=y++(List.range m).map (fun(k:Nat)=>(⟨(i:Int),(k:Int),Q⟩:cv))/\ ∀(t:Nat) s,t<m->P.body[t]? =some s->fJ p.a' s Q=true) (λu=>P.body.length-u.2.toNat) ?_ n _ ⟨0,rfl,O,aY,λt s h=>O⟩ Z;rintro Xb ⟨u,z⟩ ⟨m,c,k5,hu,L⟩ UW;dsimp only at c hu L⊢;subst c;refine bb (λXu=>?_) λXq=>?_
       ·have R:=bg (O:m<P.body.length);have B:=bB R;refine ai (bw R) (ai (LW O cc cy (T8 _ B) Y) ?_);cases G1:fJ p.a' P.body[m] Q with
        |false=>
         refine dw (ah.some (a (r ?_)));rw[F];refine hz.2 ⟨_,B,?_⟩;rw[hz.2 ⟨Q,K,by rw[G1];simp⟩];simp
        |true=>
         have hcl:ho Q=some Q:=by unfold ho;rw[bh O]
         have lY:u.length<=480*4+480+4:=by rw[hu];simp;omega
         refine cx (ai hcl (ai (ej bY) ?_));rw[bd O];refine UW _ ⟨m+1,Z,O,?_,λt s C W=>?_⟩ Z
         ·dsimp only;rw[hu,Ia,iq]
         by_cases U9:t=m
         ·subst U9;rw[R] at W;cases W;exact G1
         exact L t s O W
       have UE:m=P.body.length:=O
       rw[bd O];refine V _ ⟨k+1,Z,O,?_,λt q C X=>?_⟩ Z
       ·dsimp only;rw[eG,v,lv,<-iq,<-G,hu,UE];simp[row]
       by_cases U8:t=k
       ·subst U8;rw[v] at X;cases X;refine⟨Hi,λs M=>?_⟩;obtain⟨ju,Hl⟩:=im M
        have:=(bt.1 Hl).1;exact L ju s O Hl
       exact H t q O X
     have G8:k=b.length:=O
     have Hg:eC p.a' P=true:=by
      rw[F];refine fG.2 λs M=>fG.2 λq Y=>?_;obtain⟨t,C⟩:=im Y
      have:=(bt.1 C).1;obtain⟨g1,g2⟩:=H t q O C;rw[g1,g2 s M];rfl
     have Ua:=yp Hg;have AM:=Bb i P;rw[bd O];refine bH _ ⟨i+1,Z,O,?_,?_,λt y C g=>?_⟩ Z
     ·dsimp only;rw[Bd bE,o,G,G8,dA,hx]
     ·dsimp only;rw[G,G8,dA,dq,<-o];omega
     by_cases U7:t=i
     ·subst U7;rw[bE] at g;cases g;exact Hg
     exact I t y O g
  have Up:i=p.parts.length:=O
  have hall:iN p=true:=by
   rw[d];exact fG.2 (λy G=>by
    obtain⟨t,C⟩:=im G
    have:=(bt.1 C).1;exact I t y O C)
  rw[<-iE,bh hall,hx,Up,dA];congr 1;exact decide_eq_decide.2 O
theorem vy(a:7700000<=n)(b:iY p):sE n p=some (c' p):=by
 unfold sE;rw[I6 a b];unfold c';cases h:iN p with
 |false=>rfl
 |true=>
  rw[bh rfl];show some (decide _)=_;rw[iu];congr 1
  have:=Bc p.parts;exact decide_eq_decide.2 O
theorem gQ(h:c' p=true):p.a'.length<=4/\kI p.a'/\p.parts.length<=4/\(∀x∈p.parts,eC p.a' x=true)/\(cz p.parts).length<=120:=by
 simp only[c',iN,Bool.and_eq_true,decide_eq_true_eq,List.all_eq_true] at h;obtain⟨⟨c,d,e⟩,i⟩:=h;obtain⟨a,b⟩:=zF c
 have:=Bc p.parts;exact⟨a,b,d,e,O⟩
theorem H9(cj:7700000<=n)(U:c' p=true):sH n p=some (cz p.parts):=by
 obtain⟨cc,cy,h4,B,V⟩:=gQ U;refine ah.eq ?_;unfold sH;refine ah.loop (λx:List cv×Int=> ∃i:Nat,x.2=i/\i<=p.parts.length/\x.1=cz (p.parts.take i)/\x.1.length<=480*i) (λx=>p.parts.length-x.2.toNat) ?_ n _ ⟨0,rfl,O,by simp[cz],aY⟩ Z;rintro C ⟨x,z⟩ ⟨i,b,aG,D,F⟩ Y;dsimp only at b D F⊢;subst b;refine bb (λhlt=>?_) λjR=>ah.some ?_
 ·have bE:=bg (O:i<p.parts.length);have hm:=bB bE;have d:=B _ hm;generalize sg:p.parts[i]=P at*;obtain⟨jr,q2,nj,HU⟩:=kF d;obtain⟨j,G,H,e,K⟩:=og jr;generalize L:hM P=t at*;have Ua:=yp d;have E:=Bb i P;let row:List Int->List cv:=λq=>(List.range P.body.length).map fun(k:Nat)=>(⟨(i:Int),(k:Int),q⟩:cv)
  have R: ∀q,(row q).length=P.body.length:=λq=>by simp[row]
  have a:k8 i P=t.flatMap row:=by unfold k8;rw[L]
  refine ai (bw bE) (jP (BV j P.nest n 0 [] [] (by have:=j.1;omega) rfl O tc K aY) λr ⟨o0,qZ⟩=>?_);have W:r=t:=by rw[o0 (by rw[<-e];simpa using G),e];rfl
  subst W;refine ah.loop (λy:List cv×Int=> ∃k:Nat,y.2=k/\k<=r.length/\y.1=x++(r.take k).flatMap row) (λy=>r.length-y.2.toNat) ?_ n _ ⟨0,rfl,O,aY⟩ Z;rintro h ⟨y,z⟩ ⟨k,b,hk,l⟩ o;dsimp only at b l⊢;subst b;refine bb (λI=>?_) λM=>?_
  ·have c:=bg (O:k<r.length);have X:=bB c;generalize AE:r[k]=Q at*;have N:=H _ X;have UU:Q.length<=4:=by have:=N.1;have:=N.2.1;omega
   have Vg:y.length<=480*4+480:=by
    rw[l,dq,tU row _ R,dz]
    have:min k r.length*P.body.length<=120*4:=mf O q2.2;omega
   refine ah.loop (λu:List cv×Int=> ∃m:Nat,u.2=m/\m<=P.body.length/\u.1=y++(List.range m).map (fun(k:Nat)=>(⟨(i:Int),(k:Int),Q⟩:cv))) (λu=>P.body.length-u.2.toNat) ?_ n _ ⟨0,rfl,O,aY⟩ Z;rintro s ⟨u,z⟩ ⟨m,b,k5,A⟩ v;dsimp only at b A⊢;subst b;refine bb (λS=>?_) λT=>?_
   ·have lY:u.length<=480*4+480+4:=by rw[A];simp;omega
    refine ai (bw c) (ai (kx _ O) (ai (ej bY) ?_));rw[bd O];refine v _ ⟨m+1,Z,O,?_⟩ Z;dsimp only;rw[A,Ia,iq]
   have f:m=P.body.length:=O
   rw[bd O];refine o _ ⟨k+1,Z,O,?_⟩ Z;dsimp only;rw[eG,c,lv,<-iq,<-l,A,f];simp[row]
  have w:k=r.length:=O
  rw[bd O];refine Y _ ⟨i+1,Z,O,?_,?_⟩ Z
  ·dsimp only;rw[Bd bE,a,l,w,dA,D]
  dsimp only;rw[l,w,dA,dq,<-a];omega
 have g:i=p.parts.length:=O
 rw[D,g,dA]
def hV:Nat->List bX->List Int->Expr->List Int->Int
 |0,_,_,_,_=>0
 |L+1,c,m,e,q=>
  if e.kind=1 then e.num
  else if e.kind=2 then eM e.index q%1000
  else if e.kind=3 then m.getD (dO c e.read q 0).toNat 0
  else match e.aJ with
   | [a,b]=>if e.kind=4 then(hV L c m a q+hV L c m b q)%1000 else if e.kind=5 then(hV L c m a q-hV L c m b q)%1000 else(hV L c m a q*hV L c m b q)%1000
   |_=>0
def oa(a:List bX)(m:List Int):Prop:=(m.length:Int)=lB a/\ ∀x∈m,0<=x/\x<=999
theorem Sx(h:oa r m)(i:Nat):0<=m.getD i 0/\m.getD i 0<=999:=by
 rw[eP];cases a:m[i]? with
 |none=>simp
 |some x=>exact h.2 x (bB a)
theorem RY(b:oa r m): ∀{L:Nat} {e:Expr},dR L e d=true->0<=hV L r m e q/\hV L r m e q<=999
 |0,e,h=>by cases h
 |L+1,e,h=>by
  obtain⟨c,a,i⟩:=jj h;simp only[hV];split
  ·rename_i b6;unfold eS at a;rw[bp O,bp O,bh b6] at a;simp only[Bool.and_eq_true,decide_eq_true_eq] at a;omega
  split
  ·omega
  split
  ·exact Sx b _
  split
  ·split
   ·omega
   split<;>omega
  omega
def fK(p:Prog)(x:cv):Prop:= ∃(i k:Nat) (P:Part) (s:Stmt),x.part=i/\x.stmt=k/\p.parts[i]? =some P/\P.body[k]? =some s/\x.cP∈hM P
def pt(p:Prog)(x:cv):Option Stmt:=(p.parts[x.part.toNat]?).bind λP=>P.body[x.stmt.toNat]?
def hr(p:Prog)(m:List Int)(x:cv):List Int:=match pt p x with
 |some s=>m.set (dO p.a' s.write x.cP 0).toNat (hV 5 p.a' m s.value x.cP)
 |none=>m
theorem sG(n:c' p=true){x:cv}(o:fK p x): ∃(i k:Nat) (P:Part) (s:Stmt) (d:Int),x.part=i/\x.stmt=k/\p.parts[i]? =some P/\P.body[k]? =some s/\pt p x=some s/\eL s d=true/\fR P.nest.length x.cP/\fJ p.a' s x.cP=true:=by obtain⟨B,C,D,a,q⟩:=gQ n;obtain⟨i,k,P,s,h,l,b,c,m⟩:=o;obtain⟨r,F,v,w⟩:=kF (a P (bB b));obtain⟨G,y,e,z,A⟩:=og r;have hs:=bB c;exact⟨i,k,P,s,_,h,l,b,c,by unfold pt;rw[h,l,eF,b];exact(by rw[eF];exact c),v s hs,e _ m,(w s hs _ m).1⟩
theorem zc(h:fJ r s q=true):0<=dO r s.write q 0/\ ∀a∈ei 5 s.value,0<=dO r a q 0:=by simp only[fJ,Bool.and_eq_true,decide_eq_true_eq,List.all_eq_true] at h;exact h
theorem u2{k:Type}{l:List k}{c:Int}(a:0<=c)(h:c.toNat<l.length):aD l c=some l[c.toNat]:=by unfold aD;rw[bh a,List.getElem?_eq_getElem h]
theorem E7(c:c' p=true)(a:oa p.a' m){x:cv}(e:fK p x):oa p.a' (hr p m x):=by
 obtain⟨i,k,P,s,d,o,q,r,w,l,n,y,z⟩:=sG c e;unfold hr;rw[l];refine⟨by rw[ke];exact a.1,λv b=>?_⟩;rcases nC b with h|h
 ·exact a.2 v h
 rw[h];exact RY a (jY n).2.1
theorem k9{x:cv}(h:x∈cz l): ∃(i k:Nat) (P:Part) (s:Stmt),x.part=i/\x.stmt=k/\l[i]? =some P/\P.body[k]? =some s/\x.cP∈hM P:=by unfold cz at h;rw[List.mem_flatMap] at h;obtain⟨⟨P,i⟩,c,a⟩:=h;unfold k8 at a;rw[List.mem_flatMap] at a;obtain⟨q,d,b⟩:=a;rw[fU] at b;obtain⟨k,e,rfl⟩:=b;have m:=q9.1 e;exact⟨i,k,P,P.body[k],rfl,rfl,w3.1 c,bg m,d⟩
def jZ(p:Prog)(m:List Int)(l:List cv):List Int:=l.foldl (hr p) m
end
section
def gX(B:Nat)(a:aH):Prop:=a.ao.length<=B
def hX(B:Nat)(l:List aH):Prop:=l.length<=B/\ ∀a∈l,gX B a
def nS(B:Nat)(a:List Loop):Prop:=a.length<=B/\ ∀l∈a,hX B l.bn/\hX B l.aG
def hY(B:Nat):Nat->Expr->Prop
 |0,_=>False
 |L+1,e=>e.aJ.length<=B/\gX B e.index/\hX B e.read.ak/\ ∀k∈e.aJ,hY B L k
def kQ(B:Nat)(s:Stmt):Prop:=hX B s.write.ak/\hY B 5 s.value
def ki(B:Nat)(x:Part):Prop:=nS B x.nest/\x.body.length<=B/\ ∀s∈x.body,kQ B s
def rp(B:Nat)(l:List bX):Prop:=l.length<=B/\ ∀x∈l,x.bo.length<=B
def gK(B:Nat)(p:Prog):Prop:=rp B p.a'/\p.parts.length<=B/\ ∀x∈p.parts,ki B x
variable {B C n:Nat}{s:Stmt}{p:Prog}{k R:Type}{K:List k->Option R}{Q:R->Prop}{l:List k}
theorem gX.mono(h:B<=C){a:aH}(b:gX B a):gX C a:=dT b h
theorem hX.mono(h:B<=C){l:List aH}(b:hX B l):hX C l:=⟨dT b.1 h,λa c=>(b.2 a c).mono h⟩
theorem nS.mono(h:B<=C){l:List Loop}(b:nS B l):nS C l:=⟨dT b.1 h,λa c=>⟨(b.2 a c).1.mono h,(b.2 a c).2.mono h⟩⟩
theorem hY.mono{B C:Nat}(h:B<=C): ∀{L M:Nat} {e:Expr},L<=M->hY B L e->hY C M e
 |0,_,_,_,a=>a.elim
 |L+1,0,_,b,_=>O
 |L+1,M+1,e,b,a=>⟨dT a.1 h,a.2.1.mono h,a.2.2.1.mono h,λk c=>hY.mono h O (a.2.2.2 k c)⟩
theorem kQ.mono(h:B<=C)(a:kQ B s):kQ C s:=⟨a.1.mono h,a.2.mono h (cL _)⟩
theorem ki.mono(h:B<=C){s:Part}(a:ki B s):ki C s:=⟨a.1.mono h,dT a.2.1 h,λs b=>(a.2.2 s b).mono h⟩
theorem rp.mono(h:B<=C){s:List bX}(a:rp B s):rp C s:=⟨dT a.1 h,λs b=>dT (a.2 s b) h⟩
theorem gK.mono(h:B<=C)(a:gK B p):gK C p:=⟨a.1.mono h,dT a.2.1 h,λs b=>(a.2.2 s b).mono h⟩
theorem hX.sm{l:List aH}(h:hX 1100000 l):iW l:=⟨h.1,h.2⟩
theorem hY.sm: ∀{L:Nat} (j:Nat) {e:Expr},hY 1100000 L e->pC j e
 |_,0,_,_=>trivial
 |0,_+1,_,h=>h.elim
 |L+1,j+1,e,h=>⟨h.1,h.2.1,h.2.2.1.sm,λk a=>hY.sm j (h.2.2.2 k a)⟩
theorem kQ.sm(h:kQ 1100000 s):uA s:=⟨h.1.sm,h.2.sm 5⟩
theorem nS.sm{l:List Loop}(h:nS 1100000 l):pD l:=⟨h.1,λx a=>⟨(h.2 x a).1.sm,(h.2 x a).2.sm⟩⟩
theorem ki.sm{x:Part}(h:ki 1100000 x):zG x:=⟨h.1.sm,h.2.1,λs a=>(h.2.2 s a).sm⟩
theorem gK.sm(h:gK 1100000 p):iY p:=⟨⟨h.1.1,h.1.2⟩,h.2.1,λx a=>(h.2.2 x a).sm⟩
theorem yn{h:Type}{f:k->Option h}{g:k->h->k}(e: ∀x∈l,∃z,f x=some z/\g x z=x)(v:l.length<=1100000)(A:5500000<=n)(m:ah (K l) Q):
  ah (a8 (λa ((x,i):List k×Int)=>bif decide (i<(l.length:Int)) then(Option.bind (aD l i) λy=>Option.bind (f y) λz=>Option.bind (app x [g y z]) λw=>a (w,wr (i+1))) else K x) n ([],0)) Q:=by
 refine ah.loop (λz:List k×Int=> ∃i:Nat,z.2=i/\i<=l.length/\z.1=l.take i) (λz=>l.length-z.2.toNat) ?_ n _ ⟨0,rfl,O,aY⟩ Z;rintro a ⟨x,z⟩ ⟨i,d,B,b⟩ o;dsimp only at d b⊢;subst d;refine bb (λp=>?_) λq=>?_
 ·have bE:=bg (O:i<l.length);have r:x.length<=1100000:=by rw[b,dz];omega
  obtain⟨y,s,c⟩:=e _ (bB bE);refine ai (bw bE) (ai s (ai (ej bY) ?_));rw[bd O];refine o _ ⟨i+1,Z,O,?_⟩ Z;dsimp only;rw[eG,bE,b,c];rfl
 have:i=l.length:=O
 rw[b,this,dA];exact m
theorem jO{f:k->Option k}(b: ∀x∈l,f x=some x)(c:l.length<=1100000)(d:5500000<=n)(e:ah (K l) Q):
  ah (a8 (λa ((x,i):List k×Int)=>bif decide (i<(l.length:Int)) then(Option.bind (aD l i) λy=>Option.bind (f y) λz=>Option.bind (app x [z]) λw=>a (w,wr (i+1))) else K x) n ([],0)) Q:=
 yn (g:=λ_ z=>z) (λx h=>⟨x,b x h,rfl⟩) c d e
theorem C2: ∀(L n:Nat) (e:Expr),5500000+L<=n->hY 1100000 L e->nm (n+1) e=some e
 |0,_,_,_,h=>h.elim
 |L+1,n,e,l,h=>by
  obtain⟨a,b,c,d⟩:=h;unfold nm;refine ah.eq (ai (Cs n b) (ai (Ct O c.sm) ?_));obtain⟨n,rfl⟩: ∃j,n=j+1:=⟨n-1,O⟩
  exact jO (f:=nm (n+1)) (K:=λi=>some (⟨e.kind,e.num,e.index,e.read,i⟩:Expr)) (λx k=>C2 L n x O (d x k)) a O (ah.some (by cases e;rfl))
theorem Mt(a:6600000<=n)(h:kQ 1100000 s):qU n s=some s:=by
 obtain⟨n,rfl⟩: ∃j,n=j+1:=⟨n-1,O⟩
 unfold qU;rw[Ct O h.1.sm,C2 5 n s.value O h.2];rfl
theorem Mu(Q:6600000<=n){nest:List Loop}(h:nS 1100000 nest):tA n nest=some nest:=by
 obtain⟨R,A⟩:=h;refine ah.eq ?_;unfold tA;refine ah.loop (λz:List Loop×Int=> ∃i:Nat,z.2=i/\i<=nest.length/\z.1=nest.take i) (λz=>nest.length-z.2.toNat) ?_ n _ ⟨0,rfl,O,aY⟩ Z;rintro b ⟨x,z⟩ ⟨i,d,W,e⟩ B;dsimp only at d e⊢;subst d;refine bb (λC=>?_) λD=>ah.some ?_
 ·have bE:=bg (O:i<nest.length);obtain⟨⟨X,F⟩,⟨b6,bZ⟩⟩:=A _ (bB bE);have G:x.length<=1100000:=by rw[e,dz];omega
  refine ah.loop (λz:List aH×Int=> ∃t:Nat,z.2=t/\t<=nest[i].bn.length/\z.1=nest[i].bn.take t) (λz=>nest[i].bn.length-z.2.toNat) ?_ n _ ⟨0,rfl,O,aY⟩ Z;rintro k ⟨y,z⟩ ⟨t,d,j,m⟩ o;dsimp only at d m⊢;subst d;refine ai (bw bE) (bb (λv=>?_) λw=>?_)
  ·have c:=bg (O:t<nest[i].bn.length);have H:y.length<=1100000:=by rw[m,dz];omega
   refine ai (bw c) (ai (kx _ (F _ (bB c))) (ai (ej bY) ?_));rw[bd O];refine o _ ⟨t+1,Z,O,?_⟩ Z;dsimp only;rw[eG,c,m];rfl
  have p:t=nest[i].bn.length:=O
  refine yn (l:=nest[i].aG) (f:=λa:aH=>app [] a.ao) (g:=λa q=>(⟨q,a.const⟩:aH)) (K:=λr=>Option.bind (app x [(⟨y,r⟩:Loop)]) λs=>b (s,wr ((i:Int)+1))) (λa L=>⟨_,kx _ (bZ a L),rfl⟩) b6 O ?_;refine ai (ej bY) ?_;rw[bd O];refine B _ ⟨i+1,Z,O,?_⟩ Z;dsimp only;rw[eG,bE,e,m,p,dA];rfl
 have:i=nest.length:=O
 rw[e,this,dA]
theorem C1(C:6600000<=n)(h:gK 1100000 p):tw n p=some p:=by
 obtain⟨⟨ay,a2⟩,M,G⟩:=h;refine ah.eq ?_;unfold tw;refine yn (n:=n) (l:=p.a') (f:=λr:bX=>app [] r.bo) (g:=λr H=>(⟨r.name,H⟩:bX)) (K:=λL=>a8 (λb ((D,v):(List Part)×Int)=>
    bif decide (v<(p.parts.length:Int)) then(
     Option.bind (aD p.parts v) λe=>
     Option.bind (tA n e.nest) λw=>
     a8 (λc ((d,k):(List Stmt)×Int)=>
      bif decide (k<(e.body.length:Int)) then(
       Option.bind (aD e.body k) λy=>
       Option.bind (qU n y) λA=>
       Option.bind (app d [A]) λB=>
       c (B,wr (k+1))
      ) else(
       Option.bind (app D [(⟨w,d⟩:Part)]) λm=>
       b (m,wr (v+1))
      )
     ) n ([],0)
    ) else(
     some (⟨L,D⟩:Prog)
    )
   ) n ([],0)) (λa Q=>⟨_,kx _ (a2 a Q),rfl⟩) ay O ?_
 refine ah.loop (λz:List Part×Int=> ∃i:Nat,z.2=i/\i<=p.parts.length/\z.1=p.parts.take i) (λz=>p.parts.length-z.2.toNat) ?_ n _ ⟨0,rfl,O,aY⟩ Z;rintro o ⟨x,z⟩ ⟨i,F,N,q⟩ R;dsimp only at F q⊢;subst F;refine bb (λW=>?_) λX=>ah.some ?_
 ·have bE:=bg (O:i<p.parts.length);obtain⟨j,t,u⟩:=G _ (bB bE);have E:x.length<=1100000:=by rw[q,dz];omega
  refine ai (bw bE) (ai (Mu C j) ?_);refine jO (f:=qU n) (K:=λd=>Option.bind (app x [(⟨p.parts[i].nest,d⟩:Part)]) λm=>o (m,wr ((i:Int)+1))) (λs I=>Mt C (u s I)) t O ?_;refine ai (ej bY) ?_;rw[bd O];refine R _ ⟨i+1,Z,O,?_⟩ Z;dsimp only;rw[eG,bE,q];rfl
 have:i=p.parts.length:=O
 rw[q,this,dA]
theorem E5{i:Nat}{x:k}{P:k->Prop}(h: ∀y∈l,P y)(b:P x): ∀y∈l.set i x,P y:=λy c=>by
 rcases nC c with a|a
 ·exact h y a
 rw[a];exact b
theorem fr{i:Int}(h:0<=i/\i<l.length)(x:k):cR l i x=some (l.set i.toNat x):=by unfold cR;rw[bh h]
end
variable {k R:Type}{l:List cv}{i n:Nat}{x a b:cv}{p:Prog}{f:k->R}
theorem kZ{l:List k}{x:k}(h:l[i]? =some x):l.take (i+1)=l.take i++[x]:=by rw[eG,h];rfl
def dG(p:Prog)(x:cv):Nat:=match pt p x with
 |some s=>(dO p.a' s.write x.cP 0).toNat
 |none=>0
def rc(p:Prog)(x:cv):List Int:=match pt p x with
 |some s=>(ei 5 s.value).map (λa=>dO p.a' a x.cP 0)
 |none=>[]
def pg(p:Prog)(m:List Int)(x:cv):Int:=match pt p x with
 |some s=>hV 5 p.a' m s.value x.cP
 |none=>0
theorem EY{list:List bX}(b:kI list){a:bR}{q:List Int}(h:0<=dO list a q 0):dO list a q 0<lB list:=by rcases EZ b a q 0 (fV 0) with bj|bj<;>omega
theorem vA(b:c' p=true)(n:fK p x):(dG p x:Int)<lB p.a'/\(∀c∈rc p x,0<=c/\c<lB p.a')/\(rc p x).length<=12/\ ∀m,hr p m x=m.set (dG p x) (pg p m x):=by obtain⟨i,k,P,s,d,B,C,D,F,o,q,G,r⟩:=sG b n;obtain⟨H,e,K,v,w⟩:=gQ b;obtain⟨y,h⟩:=zc r;obtain⟨L,Q,R,z⟩:=jY q;unfold dG rc pg hr;rw[o];dsimp only;refine⟨by have:=EY e y;omega,λc A=>?_,by rw[dI];exact z,λm=>rfl⟩;obtain⟨a,l,rfl⟩:=fU.1 A;exact⟨h a l,EY e (h a l)⟩
theorem LD(u:7810000<=n)(l:c' p=true)(w:fK p x):vx n p x=some (rc p x,(dG p x:Int)):=by
 obtain⟨i,k,P,s,d,y,A,B,C,m,D,o,F⟩:=sG l w;obtain⟨q,r,E,G,H⟩:=gQ l;obtain⟨I,M⟩:=zc F;obtain⟨K,L,Q,N⟩:=jY D;obtain⟨n,rfl⟩: ∃j,n=j+1:=⟨n-1,O⟩
 have c:vG (n+1) p x=some s:=by
  unfold vG;rw[y,A,bw B];show Option.bind (aD P.body (k:Int)) _=_;rw[bw C];rfl
 have W:(dG p x:Int)=dO p.a' s.write x.cP 0:=by unfold dG;rw[m];dsimp only;omega
 have X:rc p x=(ei 5 s.value).map (λa=>dO p.a' a x.cP 0):=by unfold rc;rw[m]
 rw[W,X];refine ah.eq ?_;unfold vx;refine ai c (ai (Cn (d:=d) 5 n s.value O O L) ?_);generalize S:ei 5 s.value=R at*;refine ah.loop (λz:List Int×Int=> ∃i:Nat,z.2=i/\i<=R.length/\z.1=(R.take i).map λa=>dO p.a' a x.cP 0) (λz=>R.length-z.2.toNat) ?_ (n+1) _ ⟨0,rfl,O,aY⟩ Z;rintro h ⟨out,z⟩ ⟨i,v,T,b⟩ f;dsimp only at v b⊢;subst v;refine bb (λg=>?_) λt=>?_
 ·have bE:=bg (O:i<R.length);refine ai (bw bE) (ai (xk O q r (Q _ (bB bE)) o) (ai (ej (by rw[b,dI,dz,pe];omega)) ?_));rw[bd O];refine f _ ⟨i+1,Z,O,?_⟩ Z;dsimp only;rw[kZ bE,jy,b];rfl
 have e:i=R.length:=O
 refine ai (xk O q r K o) (ah.some ?_);rw[b,e,dA]
theorem N2(D:7810000<=n)(b:c' p=true)(h:fK p x): ∃P s,aD p.parts x.part=some P/\aD P.body x.stmt=some s/\qG n p.a' s x.cP=some (rc p x,(dG p x:Int),true):=by
 obtain⟨i,k,P,s,d,l,m,o,q,c,r,v,e⟩:=sG b h;obtain⟨w,y,F,z,A⟩:=gQ b;obtain⟨G,H⟩:=zc e;have B:(dG p x:Int)=dO p.a' s.write x.cP 0:=by unfold dG;rw[c];dsimp only;omega
 have C:rc p x=(ei 5 s.value).map (λa=>dO p.a' a x.cP 0):=by unfold rc;rw[c]
 refine⟨P,s,by rw[l];exact bw o,by rw[m];exact bw q,?_⟩;rw[JF O w y r v,bh e,B,C]
theorem DD{r:List bX}{m l:List Int}{q:List Int}{d:Int}: ∀{L:Nat} {e:Expr},dR L e d=true->(∀a∈ei L e,m.getD (dO r a q 0).toNat 0=l.getD (dO r a q 0).toNat 0)->hV L r m e q=hV L r l e q
 |0,e,h,_=>by cases h
 |L+1,e,h,n=>by
  obtain⟨v,w,p⟩:=jj h;simp only[hV];split
  ·rfl
  split
  ·rfl
  split
  ·rename_i dF;exact n _ (by simp[ei,dF])
  have i: ∀c∈e.aJ,hV L r m c q=hV L r l c q:=λc o=>
   DD (p c o) λa s=>n a (by simp only[ei,List.mem_append,List.mem_flatMap];exact .inr ⟨c,o,s⟩)
  split
  ·rename_i a b k;rw[k] at i;rw[i a aY,i b aY]
  rfl
theorem Qz(b:c' p=true)(l:fK p x){m e:List Int}(h: ∀c∈rc p x,m.getD c.toNat 0=e.getD c.toNat 0):pg p m x=pg p e x:=by obtain⟨i,k,P,s,d,r,v,w,y,n,o,z,A⟩:=sG b l;unfold pg;unfold rc at h;rw[n] at h⊢;exact DD (jY o).2.1 λa q=>h _ (List.mem_map_of_mem q)
theorem Qb(l:List k)(i j:Nat)(x d:k):(l.set i x).getD j d=if i=j/\i<l.length then x else l.getD j d:=by
 rw[eP,eP,List.getElem?_set];split
 ·rename_i h;subst h;split
  ·rename_i a;rw[bh ⟨rfl,a⟩];rfl
  rename_i a;rw[bp O,List.getElem?_eq_none O]
 rename_i h;rw[bp λa=>h a.1]
theorem LG(b:7700000<=n)(c:iY p): ∃L,p3 n p=some (L,c' p)/\(c' p=true->L=cz p.parts):=by
 rw[I6 b c];cases a:iN p with
 |false=>
  refine⟨[],?_,λh=>?_⟩
  ·rw[bp aY,show c' p=false by unfold c';rw[a];rfl]
  unfold c' at h;rw[a] at h;cases h
 |true=>
  refine⟨cz p.parts,?_,λ_=>rfl⟩;rw[bh rfl,show c' p=decide ((cz p.parts).length<=120) by
   unfold c';rw[a,Bool.true_and];exact decide_eq_decide.2 (by have:=Bc p.parts;omega)]
theorem Sz{n:Int}(h:0<=n/\n<=1000000000)(x:k):mk n x=some (List.replicate n.toNat x):=by unfold mk;rw[bh h]
def pick(l:List cv)(o:List Int):List cv:=o.filterMap λc=>l[c.toNat]?
def Tn(p:Prog)(a b:cv):Prop:=(dG p a:Int)∈rc p b\/(dG p b:Int)∈rc p a\/dG p a=dG p b
def Ai(p:Prog)(a b:cv):Prop:= ∀m,oa p.a' m->hr p (hr p m a) b=hr p (hr p m b) a
theorem Ft(a:c' p=true)(d:fK p b){w:Nat}(h:(w:Int)∉rc p b)(m:List Int)(v:Int):pg p (m.set w v) b=pg p m b:=by refine Qz a d λc i=>?_;have k:=(vA a d).2.1 c i;rw[Qb,bp];rintro⟨e,_⟩;exact h (by rw[e,tG k.1];exact i)
theorem swap(c:c' p=true)(d:fK p a)(i:fK p b)(h: ¬Tn p a b):Ai p a b:=by intro m _;have n:(dG p a:Int)∉rc p b:=λe=>h (.inl e);have o:(dG p b:Int)∉rc p a:=λe=>h (.inr (.inl e));have q:dG p a≠dG p b:=λe=>h (.inr (.inr e));have k:=(vA c d).2.2.2;have l:=(vA c i).2.2.2;rw[k,l,l,k,Ft c i n,Ft c d o,List.set_comm _ _ q]
def lE(p:Prog)(a b:cv):Int:=(if(dG p a:Int)∈rc p b then 1 else 0)+(if(dG p b:Int)∈rc p a then 2 else 0)+(if dG p a=dG p b then 4 else 0)
theorem Sm(p:Prog)(a b:cv):0<=lE p a b/\lE p a b<=7:=by unfold lE;split<;>split<;>split<;>omega
def jX(p:Prog)(l:List cv)(i k:Nat):Int:=match l[i]?,l[k]? with
 |some a,some b=>lE p a b
 |_,_=>0
theorem zf{k:Nat}(c:l[i]? =some a)(d:l[k]? =some b):jX p l i k=lE p a b:=by unfold jX;rw[c,d]
theorem Th(p:Prog)(l:List cv)(i k:Nat):0<=jX p l i k/\jX p l i k<=7:=by
 unfold jX;split
 ·exact Sm _ _ _
 omega
def iK(p:Prog)(l:List cv)(i j:Nat):List fa:=((List.range j).filter λk=>decide (i<k)&&decide (jX p l i k≠0)).map (fun(k:Nat)=>(⟨(i:Int),(k:Int),jX p l i k⟩:fa))
def fN(p:Prog)(l:List cv)(n:Nat):List fa:=(List.range n).flatMap λi=>iK p l i l.length
theorem wu(p:Prog)(l:List cv){j:Nat}(h:i<j):iK p l i (j+1)=iK p l i j++(if jX p l i j=0 then [] else [⟨(i:Int),(j:Int),jX p l i j⟩]):=by
 unfold iK;rw[pf,List.filter_append,jy];congr 1;split
 ·rename_i e;simp[e]
 rename_i e;simp[e,h]
theorem Cq(p:Prog)(l:List cv)(i:Nat): ∀j,j<=i+1->iK p l i j=[]
 |0,_=>rfl
 |j+1,h=>by have a:=Cq p l i j O;unfold iK at a⊢;rw[pf,List.filter_append,jy,a];simp[show¬i<j by omega]
theorem Cp(p:Prog)(l:List cv)(n:Nat):fN p l (n+1)=fN p l n++iK p l n l.length:=by unfold fN;rw[pf,lv];simp
theorem Cr(p:Prog)(l:List cv)(i j:Nat):(iK p l i j).length<=j:=by unfold iK;rw[dI];exact dT (List.length_filter_le _ _) aY
theorem xn(p:Prog)(l:List cv): ∀n,(fN p l n).length<=n*l.length
 |0=>by simp[fN]
 |n+1=>by
  rw[Cp,dq,dM,Nat.one_mul]
  have:=xn p l n
  have:=Cr p l n l.length;omega
theorem P0{d:fa}:d∈fN p l l.length↔ ∃i k:Nat,i<k/\k<l.length/\jX p l i k≠0/\d=⟨(i:Int),(k:Int),jX p l i k⟩:=by
 unfold fN iK;simp only[List.mem_flatMap,List.mem_range,List.mem_map,List.mem_filter,Bool.and_eq_true,decide_eq_true_eq];constructor
 ·rintro⟨i,c,k,⟨a,b,e⟩,rfl⟩;exact⟨i,k,b,a,e,rfl⟩
 rintro⟨i,k,c,a,b,rfl⟩;exact⟨i,O,k,⟨a,c,b⟩,rfl⟩
def places(o:List Int):Nat->List Int
 |0=>List.replicate o.length 0
 |k+1=>(places o k).set (o.getD k 0).toNat (k:Int)
theorem FR: ∀d∈fN p l l.length,0<=d.1/\d.1<d.2/\d.2<(l.length:Int):=by intro d a;obtain⟨i,k,b,c,e,rfl⟩:=P0.1 a;exact⟨by show(0:Int)<=(i:Int);omega,by show(i:Int)<(k:Int);omega,by show(k:Int)<_;omega⟩
theorem CC{l:List Int}(o:l.length<n)(p:l.length<=1100000)(v:Int):sD n l v=some (decide (v∈l)):=by
 refine ah.eq ?_;unfold sD;refine jP (P:=λi=>decide ((0:Int)<=i)=decide (v∈l)) ?_ λx c=>ah.some c;unfold BX;refine ah.loop (λz:Int=> ∃i:Nat,z=i/\i<=l.length/\v∉l.take i) (λz=>l.length-z.toNat) ?_ n 0 ⟨0,rfl,O,aY⟩ O;rintro b z ⟨i,rfl,q,a⟩ d;refine bb (λk=>?_) λm=>ah.some ?_
 ·have bE:=bg (O:i<l.length);refine ai (bw bE) (bb (λe=>ah.some ?_) λe=>?_)
  ·rw[bP O,bP];rw[e];exact bB bE
  rw[bd O];refine d _ ⟨i+1,O,O,?_⟩ O;rw[kZ bE,eW,rb];rintro(h|h)
  ·exact a h
  exact e h
 have e:i=l.length:=O
 rw[e,dA] at a;rw[bA O,bA a]
theorem D'{l:List Int}(m:l.length<n)(o:l.length<=1100000)(v:Int):tN n l v=some (decide (v∈l)):=by
 refine ah.eq ?_;unfold tN;refine ah.loop (λz:Int=> ∃i:Nat,z=i/\i<=l.length/\v∉l.take i) (λz=>l.length-z.toNat) ?_ n 0 ⟨0,rfl,O,aY⟩ O;rintro b z ⟨i,rfl,p,a⟩ c;refine bb (λd=>?_) λk=>ah.some ?_
 ·have bE:=bg (O:i<l.length);refine ai (bw bE) (bb (λe=>ah.some ?_) λe=>?_)
  ·rw[bP];rw[<-e];exact bB bE
  rw[bd O];refine c _ ⟨i+1,O,O,?_⟩ O;rw[kZ bE,eW,rb];rintro(h|h)
  ·exact a h
  exact e h.symm
 have e:i=l.length:=O
 rw[e,dA] at a;rw[bA a]
def lr(p:Prog):nW:=⟨p,cz p.parts,(cz p.parts).map (rc p),(cz p.parts).map λx=>(dG p x:Int)⟩
theorem tP{l:List k}{x:k}(h:l[i]? =some x):(l.map f)[i]? =some (f x):=by rw[dU,h];rfl
theorem yK{l:List k}{x:k}(h:l[i]? =some x):(l.take (i+1)).map f=(l.take i).map f++[f x]:=by rw[kZ h,jy];rfl
theorem MY(y:7810000<=n)(m:iY p):tM n p=some (if c' p=true then(some (lr p),true) else(none,false)):=by
 obtain⟨L,o,q⟩:=LG (n:=n) O m;refine ah.eq ?_;unfold tM;refine ai o ?_;dsimp only;cases h:c' p with
 |false=>exact ah.some rfl
 |true=>
  rw[q h];have r:=(gQ h).2.2.2.2;refine cx (ah.loop (λz:List (List Int)×List Int×Int=> ∃i:Nat,z.2.2=i/\i<=(cz p.parts).length/\z.1=((cz p.parts).take i).map (rc p)/\z.2.1=((cz p.parts).take i).map λx=>(dG p x:Int)) (λz=>(cz p.parts).length-z.2.2.toNat) ?_ n _ ⟨0,rfl,O,rfl,rfl⟩ (by first|omega|(dsimp only;omega)));rintro k ⟨a,b,z⟩ ⟨i,l,A,c,d⟩ s;dsimp only at l c d⊢;subst l;refine bb (λv=>?_) λw=>ah.some ?_
  ·have bE:=bg (O:i<(cz p.parts).length);refine ai (bw bE) (ai (LD O h (k9 (bB bE))) (ai (ej (by rw[c,dI,dz,pe];omega)) (ai (ej (by rw[d,dI,dz,pe];omega)) ?_)));rw[bd O];exact s _ ⟨i+1,Z,O,by dsimp only;rw[yK bE,c],by dsimp only;rw[yK bE,d]⟩ Z
  have e:i=(cz p.parts).length:=O
  rw[c,d,e,dA];rfl
def pH(p:Prog):List kj:=(cz p.parts).map λx=>(⟨rc p x,(dG p x:Int)⟩:kj)
theorem NY(k:7810000<=n)(c:c' p=true):xH n p=some (pH p):=by
 have l:=(gQ c).2.2.2.2;refine ah.eq ?_;unfold xH pH;refine ai (H9 O c) (ah.loop (λz:List kj×Int=> ∃i:Nat,z.2=i/\i<=(cz p.parts).length/\z.1=((cz p.parts).take i).map λx=>(⟨rc p x,(dG p x:Int)⟩:kj)) (λz=>(cz p.parts).length-z.2.toNat) ?_ n _ ⟨0,rfl,O,rfl⟩ Z);rintro d ⟨a,z⟩ ⟨i,h,y,b⟩ m;dsimp only at h b⊢;subst h;refine bb (λo=>?_) λq=>ah.some ?_
 ·have bE:=bg (O:i<(cz p.parts).length);obtain⟨P,s,r,v,w⟩:=N2 k c (k9 (bB bE));refine ai (bw bE) (ai r (ai v (ai w (ai (ej (by rw[b,dI,dz,pe];omega)) ?_))));rw[bd O];exact m _ ⟨i+1,Z,O,by dsimp only;rw[yK bE,b]⟩ Z
 have e:i=(cz p.parts).length:=O
 rw[b,e,dA]
theorem uM(b:c' p=true)(c: ∀x∈l,fK p x)(h:l[i]? =some a):(rc p a).length<=12:=(vA b (c _ (bB h))).2.2.1
theorem Fi{Q:R->Prop}{A B:Option Bool}(q:A=some (decide ((dG p a:Int)∈rc p b)))(r:B=some (decide ((dG p b:Int)∈rc p a))){c:Int->Option R}(h:ah (c (lE p a b)) Q):
  ah (aW (fun(m:Int)=>aW (fun(i:Int)=>aW c λk=>bif decide ((dG p a:Int)=(dG p b:Int)) then(k (wr (i+4))) else(k i))
   λn=>Option.bind B λs=>bif s then(n (wr (m+2))) else(n m))
   λo=>Option.bind A λv=>bif v then(o (wr (0+1))) else(o 0)) Q:=by
 refine ah.aW (λz=>z=if(dG p a:Int)∈rc p b then 1 else 0) (λj d=>ai q (bb (λe=>d _ (by rw[bh e];rfl)) λe=>d _ (by rw[bp e]))) λz l=>?_;subst l;refine ah.aW (λz=>z=(if(dG p a:Int)∈rc p b then 1 else 0)+if(dG p b:Int)∈rc p a then 2 else 0) (λj d=>ai r (bb (λe=>d _ ?_) λe=>d _ ?_)) λz l=>?_
 ·rw[bh e];split<;>rfl
 ·rw[bp e,Int.add_zero]
 subst l;refine ah.aW (λz=>z=lE p a b) (λj d=>bb (λe=>d _ ?_) λe=>d _ ?_) λz l=>by subst l;exact h
 ·unfold lE;rw[bh (O:dG p a=dG p b)];split<;>split<;>rfl
 unfold lE;rw[bp (show¬dG p a=dG p b by omega),Int.add_zero]
theorem LH(r:7810000<=n)(h:c' p=true){k:Nat}(c:(cz p.parts)[i]? =some a)(d:(cz p.parts)[k]? =some b):vz n (lr p) (i:Int) (k:Int)=some (jX p (cz p.parts) i k):=by rw[zf c d];have s:=uM h (λx e=>k9 e) c;have v:=uM h (λx e=>k9 e) d;have l:aD (lr p).reads (i:Int)=some (rc p a):=bw (tP c);have m:aD (lr p).reads (k:Int)=some (rc p b):=bw (tP d);have o:aD (lr p).fY (i:Int)=some (dG p a:Int):=bw (tP c);have q:aD (lr p).fY (k:Int)=some (dG p b:Int):=bw (tP d);refine ah.eq ?_;unfold vz;rw[l,m,o,q];exact Fi (CC O O _) (CC O O _) (ah.some rfl)
theorem M9(c:7810000<=n)(d:(rc p a).length<=12)(e:(rc p b).length<=12):w9 n ⟨rc p a,(dG p a:Int)⟩ ⟨rc p b,(dG p b:Int)⟩=some (lE p a b):=by refine ah.eq ?_;unfold w9;exact Fi (D' O O _) (D' O O _) (ah.some rfl)
theorem OM(H:7810000<=n)(C:c' p=true):vM n (lr p)=some (fN p (cz p.parts) (cz p.parts).length):=by
 have s:=(gQ C).2.2.2.2;refine ah.eq ?_;unfold vM;rw[show(lr p).list=cz p.parts from rfl];generalize o:cz p.parts=l at*;have K: ∀x∈l,fK p x:=λx L=>k9 (by rw[o];exact L);refine ah.loop (λz:List fa×Int=> ∃i:Nat,z.2=i/\i<=l.length/\z.1=fN p l i) (λz=>l.length-z.2.toNat) ?_ n _ ⟨0,rfl,O,rfl⟩ Z;rintro v ⟨a,z⟩ ⟨i,q,f,w⟩ Q;dsimp only at q w⊢;subst q;refine bb (λR=>?_) λW=>ah.some ?_
 ·have bE:=bg (O:i<l.length);rw[bd O];refine ah.loop (λz:List fa×Int=> ∃j:Nat,z.2=j/\i<j/\j<=l.length/\z.1=fN p l i++iK p l i j) (λz=>l.length-z.2.toNat) ?_ n _ ⟨i+1,Z,O,O,by dsimp only;rw[w,Cq p l i _ (cL _),kd]⟩ Z;rintro r ⟨b,y⟩ ⟨j,D,c,g,d⟩ A;dsimp only at D d⊢;subst D;refine bb (λF=>?_) λG=>?_
  ·have B:=bg (O:j<l.length);have h:=LH H C (i:=i) (k:=j) (by rw[o];exact bE) (by rw[o];exact B);rw[o] at h;have X:=(Th p l i j).1;refine ah.aW (λz=>z=fN p l i++iK p l i (j+1)) (λt m=>ai h (bb (λe=>ai (ej ?_) (m _ ?_)) λe=>m _ ?_)) λz q=>?_
   ·have u:=xn p l i;have E:=Cr p l i j;have I:i*l.length<=120*120:=mf O s;rw[d,dq,pe];omega
   ·rw[d,wu p l c,bp O,iq]
   ·rw[d,wu p l c,bh O,kd]
   subst q;rw[bd O];exact A _ ⟨j+1,Z,O,O,rfl⟩ Z
  have e:j=l.length:=O
  try rw[bd O]
  exact Q _ ⟨i+1,Z,O,by dsimp only;rw[d,e,Cp]⟩ Z
 have e:i=l.length:=O
 rw[w,e]
theorem N1(F:7810000<=n)(r:c' p=true):xI n p=some (fN p (cz p.parts) (cz p.parts).length):=by
 have w:=(gQ r).2.2.2.2;refine ah.eq ?_;unfold xI;refine ai (NY F r) ?_;have A:(pH p).length=(cz p.parts).length:=by unfold pH;rw[dI]
 have d: ∀(i:Nat) x,(cz p.parts)[i]? =some x->aD (pH p) (i:Int)=some ⟨rc p x,(dG p x:Int)⟩:=λi x h=>bw (tP h);rw[A];generalize pH p=u at*;generalize L:cz p.parts=l at*;have k: ∀x∈l,fK p x:=λx Q=>k9 (by rw[L];exact Q);refine ah.loop (λz:List fa×Int=> ∃i:Nat,z.2=i/\i<=l.length/\z.1=fN p l i) (λz=>l.length-z.2.toNat) ?_ n _ ⟨0,rfl,O,rfl⟩ Z;rintro B ⟨a,z⟩ ⟨i,s,g,C⟩ R;dsimp only at s C⊢;subst s;refine bb (λW=>?_) λX=>ah.some ?_
 ·have bE:=bg (O:i<l.length);rw[bd O];refine ah.loop (λz:List fa×Int=> ∃j:Nat,z.2=j/\i<j/\j<=l.length/\z.1=fN p l i++iK p l i j) (λz=>l.length-z.2.toNat) ?_ n _ ⟨i+1,Z,O,O,by dsimp only;rw[C,Cq p l i _ (cL _),kd]⟩ Z;rintro v ⟨b,y⟩ ⟨j,G,m,t,o⟩ D;dsimp only at G o⊢;subst G;refine bb (λH=>?_) λK=>?_
  ·have c:=bg (O:j<l.length);have f:=M9 F (uM r k bE) (uM r k c);refine ah.aW (λz=>z=fN p l i++iK p l i (j+1)) (λE q=>ai (d _ _ bE) (ai (d _ _ c) (ai f (dL (λe=>ai (ej ?_) (q _ ?_)) λe=>q _ ?_)))) λz s=>?_
   ·have I:=xn p l i;have M:=Cr p l i j;have N:i*l.length<=120*120:=mf O w;rw[o,dq,pe];omega
   ·rw[o,wu p l m,zf bE c,bp e,iq]
   ·rw[o,wu p l m,zf bE c,bh e,kd]
   subst s;rw[bd O];exact D _ ⟨j+1,Z,O,O,rfl⟩ Z
  have e:j=l.length:=O
  try rw[bd O]
  exact R _ ⟨i+1,Z,O,by dsimp only;rw[o,e,Cp]⟩ Z
 have e:i=l.length:=O
 rw[C,e]
theorem yU(a:l.length<=120):(fN p l l.length).length<=15000:=by have b:=xn p l l.length;have c:l.length*l.length<=120*120:=mf a a;omega
theorem NX{a b:List Int}(C:a.length<n)(D:a.length<=500000000):
  (bif !decide ((a.length:Int)=(b.length:Int)) then(some false) else(a8 (λc (d:Int)=>bif decide (d<(a.length:Int)) then(Option.bind (aD a d) λp=>Option.bind (aD b d) λq=>bif !decide (p=q) then(some false) else(c (wr (d+1)))) else(some true)) n 0))=some (decide (a=b)):=by
 refine ah.eq (dL (λh=>ah.some ?_) λh=>?_)
 ·exact(bA λe=>h (by rw[e])).symm
 refine ah.loop (λx:Int=> ∃i:Nat,x=i/\i<=a.length/\a.take i=b.take i) (λx=>a.length-x.toNat) ?_ n 0 ⟨0,rfl,O,rfl⟩ O;rintro k x ⟨i,rfl,F,l⟩ r;refine bb (λs=>?_) λv=>ah.some ?_
 ·have w:i<a.length:=O
  have y:i<b.length:=O
  have o:=bg w;have aR:=bg y;refine ai (bw o) (ai (bw aR) ?_);refine dL (λm=>ah.some ?_) λz=>?_
  ·exact(bA λe=>m (by subst e;rfl)).symm
  rw[bd O];exact r _ ⟨i+1,O,O,by rw[kZ o,kZ aR,l,z]⟩ O
 have A:a.take i=a:=ls O;have B:b.take i=b:=ls O;rw[A,B] at l;exact(bP l).symm
theorem LP{a b:List Int}(c:a.length<n)(d:a.length<=500000000):xN n a b=some (decide (a=b)):=by unfold xN;exact NX c d
end Go.Lift
