/- Plain facts on sums of products, on ranges, on the points of a nest. -/
import Derived.Test.YtjmaejilmokdgaaGreatALawDraw
set_option maxRecDepth 100000
set_option linter.unusedVariables false
namespace Go.Lift
open Go
def uX:List Int→List Int→Int
 |c::cs,x::xs=>c*x+uX cs xs
 |_,_=>0
def kG(m:Int)(x:Int):Prop:= -m≤x∧x≤m
theorem aIm{a b c x:Int}(ha:0≤a)(hb:0≤b)(h1:kG a c)(h2:kG b x):kG (a*b) (c*x):=by
 obtain⟨p1,p2⟩:=h1;obtain⟨q1,q2⟩:=h2;constructor
 ·have h:=vBn (show 0≤a+c by omega) (show 0≤b+x by omega);have k:=vBn (show 0≤a-c by omega) (show 0≤b-x by omega);have e1:(a+c)*(b+x)=a*b+a*x+c*b+c*x:=by rw [Int.add_mul,vBV,vBV];omega
  have e2:(a-c)*(b-x)=a*b-a*x-c*b+c*x:=by rw [Int.sub_mul,vBW,vBW];omega
  rw [e1] at h;rw [e2] at k;omega
 have h:=vBn (show 0≤a+c by omega) (show 0≤b-x by omega);have k:=vBn (show 0≤a-c by omega) (show 0≤b+x by omega);have e1:(a+c)*(b-x)=a*b-a*x+c*b-c*x:=by rw [Int.add_mul,vBW,vBW];omega
 have e2:(a-c)*(b+x)=a*b+a*x-c*b-c*x:=by rw [Int.sub_mul,vBV,vBV];omega
 rw [e1] at h;rw [e2] at k;omega
theorem aDJ(cs:List Int):uX cs []=0:=by cases cs<;>rfl
theorem aFm: ∀{cs xs:List Int} {c x:Int},cs[xs.length]? =some c→uX cs (xs++[x])=uX cs xs+c*x
 | [],xs,c,x,h=>by simp at h
 |d::cs,[],c,x,h=>by simp at h;subst h;simp [uX,aDJ]
 |d::cs,y::xs,c,x,h=>by
  have h:cs[xs.length]? =some c:=by simpa using h
  simp only [List.cons_append,uX];rw [aFm h];omega
theorem aFl{cs xs:List Int}{i:Nat}{c x:Int}(hc:cs[i]? =some c)(hx:xs[i]? =some x):uX cs (xs.take (i+1))=uX cs (xs.take i)+c*x:=by have hi:=(cY.1 hx).1;rw [yB,hx];exact aFm (by simpa [Nat.min_eq_left (Nat.le_of_lt hi)] using hc)
theorem aL8{M:Int}(hM:0≤M): ∀{cs xs:List Int},(∀c∈cs,kG 9 c)→(∀x∈xs,kG M x)→kG (9*M*xs.length) (uX cs xs)
 | [],xs,_,_=>by
  have:0≤9*M*(xs.length:Int):=vBn (by omega) (by omega);simp only [uX,kG];omega
 |d::cs,[],_,_=>by simp [uX,kG]
 |d::cs,y::xs,hc,hx=>by
  have h1:=aL8 hM (cs:=cs) (xs:=xs) (fun c h=>hc c (by simp [h])) fun x h=>hx x (by simp [h]);have h2:=aIm (by omega) hM (hc d (by simp)) (hx y (by simp));have e:9*M*((y::xs).length:Int)=9*M*(xs.length:Int)+9*M:=by simp [Int.mul_add]
  rw [e];simp only [uX,kG] at*;omega
def kE(lo hi:Int):List Int:=(List.range (hi-lo).toNat).map (fun(i:Nat)=>lo+(i:Int))
theorem aNn{lo hi v:Int}:v∈kE lo hi↔lo≤v∧v<hi:=by
 simp only [kE,List.mem_map,List.mem_range];constructor
 ·rintro⟨i,hi,rfl⟩;omega
 intro h;exact⟨(v-lo).toNat,by omega,by omega⟩
theorem jD{lo hi:Int}(h:hi≤lo):kE lo hi=[]:=by unfold kE;rw [show(hi-lo).toNat=0 by omega];rfl
theorem pI{lo hi:Int}(h:lo≤hi):kE lo (hi+1)=kE lo hi++[hi]:=by unfold kE;rw [show(hi+1-lo).toNat=(hi-lo).toNat+1 by omega,vBE,vAM];simp;omega
theorem xD{lo v hi:Int}(h1:lo≤v)(h2:v<hi):kE lo hi=kE lo v++v::kE (v+1) hi:=by
 obtain⟨k,hk⟩: ∃k:Nat,hi=v+1+k:=⟨(hi-v-1).toNat,by omega⟩
 subst hk;clear h2;induction k with
 |zero=>
  rw [show v+1+((0:Nat):Int)=v+1 by omega,pI h1,jD (O7 _)]
 |succ k ih=>
  rw [show v+1+((k+1:Nat):Int)=v+1+(k:Int)+1 by omega,pI (by omega),ih,pI (by omega)];simp
theorem V6{α:Type}{f:α→Option Bool}{p:α→Bool}{l:List α}(hf: ∀x∈l,f x=some (p x)){n:Nat}(hl:l.length<n)(hl2:l.length≤1000000):
  ∃r:Int,aM (fun again2 (x1:Int)=>bif decide (x1<(l.length:Int)) then(Option.bind (ix l x1) fun x3=>Option.bind (f x3) fun x4=>bif x4 then(some x1) else(again2 (wr (x1+1)))) else(some (-1))) n 0=some r∧decide (0≤r)=l.any p:=by
 suffices h:Ev (aM (fun again2 (x1:Int)=>bif decide (x1<(l.length:Int)) then(Option.bind (ix l x1) fun x3=>Option.bind (f x3) fun x4=>bif x4 then(some x1) else(again2 (wr (x1+1)))) else(some (-1))) n 0) (fun r=>decide (0≤r)=l.any p) by exact h
 refine Ev.loop (fun x:Int=>0≤x∧x≤l.length∧(l.take x.toNat).any p=false) (fun x:Int=>l.length-x.toNat) ?_ n 0 ⟨by omega,by omega,by simp⟩ (by simp;omega);rintro again x ⟨h0,h1,h2⟩ hr;refine aH (fun hlt=>?_) fun hge=>?_
 ·obtain⟨y,hy,hy2⟩:=jL h0 hlt;have hm:=cS hy2;refine aA hy (aA (hf y hm) (Ev.cond (fun ht=>Ev.some ?_) fun hfl=>?_))
  ·rw [show l.any p=true from vBK.2 ⟨y,hm,ht⟩];simp [h0]
  rw [aN (by omega)];refine hr _ ⟨by omega,by omega,?_⟩ (by omega);rw [show(x+1).toNat=x.toNat+1 by omega,yB,hy2];simp [h2,hfl]
 refine Ev.some ?_;have hx:x.toNat=l.length:=by omega
 rw [hx,qI] at h2;rw [h2];simp
theorem oE{f:Int→Option Bool}{p:Int→Bool}{l:List Int}(hf: ∀x∈l,f x=some (p x)){n:Nat}(hl:l.length<n)(hl2:l.length≤1000000):b7 n l f=some (l.any p):=by obtain⟨r,h1,h2⟩:=V6 hf hl hl2;unfold b7 gQ;rw [h1,←h2];rfl
theorem nD{f:Affine→Option Bool}{p:Affine→Bool}{l:List Affine}(hf: ∀x∈l,f x=some (p x)){n:Nat}(hl:l.length<n)(hl2:l.length≤1000000):cI n l f=some (l.any p):=by obtain⟨r,h1,h2⟩:=V6 hf hl hl2;unfold cI gF;rw [h1,←h2];rfl
theorem aBG{f:Stmt→Option Bool}{p:Stmt→Bool}{l:List Stmt}(hf: ∀x∈l,f x=some (p x)){n:Nat}(hl:l.length<n)(hl2:l.length≤1000000):fZ n l f=some (l.any p):=by obtain⟨r,h1,h2⟩:=V6 hf hl hl2;unfold fZ lY;rw [h1,←h2];rfl
theorem R9{f:Access→Option Bool}{p:Access→Bool}{l:List Access}(hf: ∀x∈l,f x=some (p x)){n:Nat}(hl:l.length<n)(hl2:l.length≤1000000):fB n l f=some (l.any p):=by obtain⟨r,h1,h2⟩:=V6 hf hl hl2;unfold fB kK;rw [h1,←h2];rfl
theorem oL{α:Type}{l:List α}{p:Nat→α→Bool}{Q:Bool→Prop}{body:(Int→Option Bool)→Int→Option Bool}{n:Nat}(hl:l.length<n)(hl2:l.length≤1000000)
  (hstep: ∀again (i:Nat) x,l[i]? =some x→(p i x=true→Ev (again ((i:Int)+1)) Q)→(p i x=false→Q false)→Ev (body again (i:Int)) Q)
  (hend: ∀again,(∀(i:Nat) x,l[i]? =some x→p i x=true)→Ev (body again (l.length:Int)) Q) (hbad:(∃(i:Nat) (x:α),l[i]? =some x∧p i x=false)→Q false):Ev (aM body n 0) Q:=by
 refine Ev.loop (fun x:Int=> ∃i:Nat,x=i∧i≤l.length∧ ∀(j:Nat) y,j<i→l[j]? =some y→p j y=true) (fun x:Int=>l.length-x.toNat) ?_ n 0 ⟨0,rfl,by omega,fun j y h=>by omega⟩ (by simp;omega);rintro again x ⟨i,rfl,hi,ha⟩ hr;by_cases hlt:i<l.length
 ·have hx:=cP hlt;refine hstep again i _ hx (fun hp=>hr _ ⟨i+1,by omega,by omega,fun j y hj hy=>?_⟩ (by omega)) fun hp=>hbad ⟨i,_,hx,hp⟩;by_cases hji:j=i
  ·subst hji;rw [hx] at hy;cases hy;exact hp
  exact ha j y (by omega) hy
 have hil:i=l.length:=by omega
 subst hil;exact hend again fun j y hy=>ha j y (cY.1 hy).1 hy
def bX(a:Affine):Bool:=decide (a.coefs.length=4)&&(decide (-99≤a.const∧a.const≤99)&&a.coefs.all fun c=>decide (-9≤c∧c≤9))
theorem jJ{a:Affine}(h:bX a=true):a.coefs.length=4∧kG 99 a.const∧ ∀c∈a.coefs,kG 9 c:=by simp only [bX,Bool.and_eq_true,decide_eq_true_eq,List.all_eq_true] at h;exact⟨h.1,h.2.1,h.2.2⟩
theorem eS(n:Nat)(x a b:Int):cT n x a b=some (decide (a≤x∧x≤b)):=by unfold cT;by_cases h1:a≤x<;>by_cases h2:x≤b<;>simp [jn,h1,h2]
theorem sO{n:Nat}(hn:5000≤n)(a:Affine)(ha:a.coefs.length≤1000):iD n a=some (bX a):=by
 have hf: ∀x∈a.coefs,gW n x=some (!decide (-9≤x∧x≤9)):=fun x _=>by unfold gW;rw [eS];rfl
 have hc:=oE (n:=n) hf (by omega) (by omega);unfold iD M6;rw [eS];simp only [jn,Option.bind];rw [hc];unfold bX;have e:(a.coefs.any fun x=> !decide (-9≤x∧x≤9))= !(a.coefs.all fun c=>decide (-9≤c∧c≤9)):=by
  rw [vAZ];simp
 rw [e];by_cases h1:a.coefs.length=4
 ·rw [decide_eq_true (show(a.coefs.length:Int)=4 by omega),decide_eq_true h1];generalize decide (-99≤a.const∧a.const≤99)=b;cases b<;>simp
 rw [decide_eq_false (show¬(a.coefs.length:Int)=4 by omega),decide_eq_false h1];rfl
theorem vG(n:Nat)(x m:Int)(hm:0≤m∧m≤1000000000):lU n x m=some (decide (-m≤x∧x≤m)):=by
 unfold lU;rw [aN (by omega)];by_cases h1: -m≤x<;>by_cases h2:x≤m
 ·simp [jn,h1,h2]
 ·simp [jn,h1,h2]
 ·simp [jn,h1,h2]
 simp [jn,h1,h2]
theorem lW{n:Nat}(hn:5000≤n)(a:Affine)(ha:a.coefs.length≤1000):fU n a=some (bX a):=by
 refine Ev.eq ?_;unfold fU;refine oL (l:=a.coefs) (p:=fun _ c=>decide (-9≤c∧c≤9)) (by omega) (by omega) (fun again i x hx hgo hno=>?_) (fun again hall=>?_) (fun⟨i,x,hx,hp⟩=>?_)
 ·rw [decide_eq_true (show(i:Int)<(a.coefs.length:Int) by have:=(cY.1 hx).1;omega)];refine aA (aS hx) (aA (vG n x 9 (by omega)) ?_);have hi:=(cY.1 hx).1;cases hp:decide (-9≤x∧x≤9) with
  |true=>show Ev (again _) _;rw [aN (by omega)];exact hgo hp
  |false=>exact Ev.some (hno hp)
 ·rw [decide_eq_false (show¬(a.coefs.length:Int)<(a.coefs.length:Int) by omega)];have e:a.coefs.all (fun c=>decide (-9≤c∧c≤9))=true:=vAF.2 fun c hc=>by obtain⟨i,hi⟩:=vAL hc;exact hall i c hi
  refine Ev.cond (fun h=>(by cases h)) fun _=>?_;unfold bX;rw [e];refine Ev.jn (fun z:Bool=>z=(decide (a.coefs.length=4)&&(decide (-99≤a.const∧a.const≤99)&&true))) (fun j hj=>?_) fun z hz=>Ev.some hz;refine aH (fun h=>aA (vG n a.const 99 (by omega)) (hj _ ?_)) fun h=>hj _ ?_
  ·rw [decide_eq_true (show a.coefs.length=4 by omega)];simp
  rw [decide_eq_false (show¬a.coefs.length=4 by omega)];rfl
 unfold bX;have e:a.coefs.all (fun c=>decide (-9≤c∧c≤9))=false:=vAI.2 ⟨x,cS hx,by rw [hp];simp⟩;rw [e];simp
def cJ(a:Affine)(p:List Int):Int:=a.const+uX a.coefs p
def ptB(M:Int)(p:List Int):Prop:= ∀x∈p,kG M x
theorem xP{a:Affine}(ha:bX a=true){p:List Int}(hp:p.length≤4){M:Int}(hM:0≤M∧M≤1000000000)(hB:ptB M p)(i:Nat)(hi:i≤p.length):kG 1000000000000 (a.const+uX a.coefs (p.take i)):=by
 obtain⟨h1,h2,h3⟩:=jJ ha;have h4:=aL8 (M:=M) hM.1 (cs:=a.coefs) (xs:=p.take i) h3 fun x hx=>hB x (vAB hx);have h5:(p.take i).length≤4:=by simp;omega
 have h6:9*M*((p.take i).length:Int)≤9*M*4:=Int.mul_le_mul_of_nonneg_left (by omega) (by omega);simp only [kG] at*;omega
theorem aJt{n:Nat}(hn:5000≤n){a:Affine}(ha:bX a=true){p:List Int}(hp:p.length≤4){M:Int}(hM:0≤M∧M≤1000000000)(hB:ptB M p):dD n a p=some (cJ a p):=by
 obtain⟨h1,h2,h3⟩:=jJ ha;refine Ev.eq ?_;unfold dD;refine Ev.loop (fun x:Int×Int=> ∃i:Nat,x.2=i∧i≤p.length∧x.1=a.const+uX a.coefs (p.take i)) (fun x=>p.length-x.2.toNat) ?_ n _ ⟨0,rfl,by omega,by simp [aDJ]⟩ (by simp;omega);rintro again ⟨x,k⟩ ⟨i,hk,hi,hx⟩ hr;dsimp only at hk hx⊢;subst hk;refine aH (fun hlt=>?_) fun hge=>Ev.some ?_
 ·have hlt:i<p.length:=by omega
  have hp2:=cP hlt;have hc2:=cP (show i<a.coefs.length by omega);have hd:=aFl hc2 hp2;have e1:=xP ha hp hM hB i hi;have e2:=xP ha hp hM hB (i+1) (by omega);rw [hd] at e2;have e3:=aIm (by omega) hM.1 (h3 _ (cS hc2)) (hB _ (cS hp2));refine aA (aS hp2) (aA (aS hc2) ?_);simp only [kG] at e1 e2 e3;rw [aN (n:=a.coefs[i]*p[i]) (by omega),aN (by omega),aN (by omega)];refine hr _ ⟨i+1,by dsimp only;omega,by omega,?_⟩ (by dsimp only;omega);dsimp only;rw [hd,hx];omega
 have:i=p.length:=by omega
 rw [hx,this,qI];rfl
theorem aI8{n:Nat}(hn:5000≤n){a:Affine}(ha:bX a=true){p:List Int}(hp:p.length≤4){M:Int}(hM:0≤M∧M≤1000000000)(hB:ptB M p):jT n a p=some (cJ a p):=by
 obtain⟨h1,h2,h3⟩:=jJ ha;refine Ev.eq ?_;unfold jT;refine Ev.loop (fun x:Int×Int=> ∃i:Nat,x.2=i∧i≤p.length∧x.1=a.const+uX a.coefs (p.take i)) (fun x=>p.length-x.2.toNat) ?_ n _ ⟨0,rfl,by omega,by simp [aDJ]⟩ (by simp;omega);rintro again ⟨x,k⟩ ⟨i,hk,hi,hx⟩ hr;dsimp only at hk hx⊢;subst hk;refine Ev.jn (fun z=>z=decide (i<p.length)) (fun j hj=>aH (fun h=>hj _ ?_) fun h=>hj _ ?_) fun z hz=>?_
 ·rw [decide_eq_true (show i<p.length by omega),decide_eq_true (show(i:Int)<(a.coefs.length:Int) by omega)]
 ·rw [decide_eq_false (show¬i<p.length by omega)]
 subst hz;refine aH (fun hlt=>?_) fun hge=>Ev.some ?_
 ·have hp2:=cP hlt;have hc2:=cP (show i<a.coefs.length by omega);have hd:=aFl hc2 hp2;have e1:=xP ha hp hM hB i hi;have e2:=xP ha hp hM hB (i+1) (by omega);rw [hd] at e2;have e3:=aIm (by omega) hM.1 (h3 _ (cS hc2)) (hB _ (cS hp2));refine aA (aS hc2) (aA (aS hp2) ?_);simp only [kG] at e1 e2 e3;rw [aN (n:=a.coefs[i]*p[i]) (by omega),aN (by omega),aN (by omega)];refine hr _ ⟨i+1,by dsimp only;omega,by omega,?_⟩ (by dsimp only;omega);dsimp only;rw [hd,hx];omega
 have:i=p.length:=by omega
 rw [hx,this,qI];rfl
theorem b9{R:Type}{Q:R→Prop}{A B:Option R}(h:Ev A Q):Ev (bif true then A else B) Q:=h
theorem b6{R:Type}{Q:R→Prop}{A B:Option R}(h:Ev B Q):Ev (bif false then A else B) Q:=h
def cO:List Int→Nat
 | []=>0
 |c::cs=>if cO cs=0 then(if c=0 then 0 else 1) else cO cs+1
theorem P9: ∀(l:List Int) (c:Int),cO (l++[c])=if c=0 then cO l else l.length+1
 | [],c=>by simp [cO]
 |d::l,c=>by
  have ih:=P9 l c;simp only [List.cons_append,cO,ih];by_cases hc:c=0
  ·simp [hc]
  simp [hc]
theorem P8{l:List Int}{i:Nat}{c:Int}(h:l[i]? =some c):cO (l.take (i+1))=if c=0 then cO (l.take i) else i+1:=by have hi:=(cY.1 h).1;rw [yB,h];show cO (l.take i++[c])=_;rw [P9,u4,Nat.min_eq_left (Nat.le_of_lt hi)]
theorem P7: ∀{l:List Int} {i:Nat} {c:Int},l[i]? =some c→cO l≤i→c=0
 | [],i,c,h,_=>by simp at h
 |d::l,0,c,h,hd=>by
  simp at h;subst h;simp only [cO] at hd;by_cases h1:cO l=0
  ·by_cases h2:d=0
   ·exact h2
   simp [h1,h2] at hd
  simp [h1] at hd
 |d::l,i+1,c,h,hd=>by
  have h:l[i]? =some c:=by simpa using h
  refine P7 h ?_;simp only [cO] at hd;by_cases h1:cO l=0
  ·omega
  rw [if_neg h1] at hd;omega
def SmA(a:Affine):Prop:=a.coefs.length≤1000
def S9(l:List Affine):Prop:=l.length≤1000∧ ∀a∈l,SmA a
theorem tJ{n:Nat}(hn:5000≤n){a:Affine}(ha:SmA a):i8 n a=some (cO a.coefs:Int):=by
 have ha:a.coefs.length≤1000:=ha;refine Ev.eq ?_;unfold i8;refine Ev.loop (fun x:Int×Int=> ∃i:Nat,x.2=i∧i≤a.coefs.length∧x.1=(cO (a.coefs.take i):Int)) (fun x=>a.coefs.length-x.2.toNat) ?_ n _ ⟨0,rfl,by omega,by simp [cO]⟩ (by simp;omega);rintro again ⟨x,k⟩ ⟨i,hk,hi,hx⟩ hr;dsimp only at hk hx⊢;subst hk;refine aH (fun hlt=>?_) fun hge=>Ev.some ?_
 ·have hlt:i<a.coefs.length:=by omega
  have hc:=cP hlt;have hd:=P8 hc;refine Ev.jn (fun z:Int=>z=(cO (a.coefs.take (i+1)):Int)) (fun j hj=>aA (aS hc) (cZ (fun h0=>hj _ ?_) fun h0=>hj _ ?_)) fun z hz=>?_
  ·rw [hd,if_neg h0,aN (by omega)];omega
  ·rw [hd,if_pos h0,hx]
  rw [aN (by omega)];exact hr _ ⟨i+1,by dsimp only;omega,by omega,hz⟩ (by dsimp only;omega)
 have:i=a.coefs.length:=by omega
 rw [hx,this,qI]
theorem zE{n:Nat}(hn:5000≤n){a:Affine}(ha:SmA a):e9 n a=some (cO a.coefs:Int):=by
 have ha:a.coefs.length≤1000:=ha;refine Ev.eq ?_;unfold e9;refine Ev.loop (fun x:Int=> ∃i:Nat,x=i∧i≤a.coefs.length∧cO a.coefs=cO (a.coefs.take i)) (fun x=>x.toNat) ?_ n _ ⟨a.coefs.length,rfl,by omega,by rw [qI]⟩ (by simp;omega);rintro again x ⟨i,rfl,hi,hx⟩ hr;cases i with
 |zero=>
  refine Ev.jn (fun z=>z=false) (fun j hj=>aH (fun h=>absurd h (by decide)) fun h=>hj _ rfl) fun z hz=>?_;subst hz;exact Ev.some (by rw [hx];rfl)
 |succ i=>
  have hlt:i<a.coefs.length:=by omega
  have hc:=cP hlt;have hd:=P8 hc;have e:wr (((i+1:Nat):Int)-1)=(i:Int):=by rw [aN (by omega)];omega
  rw [e];refine Ev.jn (fun z=>z=decide (a.coefs[i]=0)) (fun j hj=>aH (fun h=>aA (aS hc) (hj _ rfl)) fun h=>absurd (show(0:Int)<((i+1:Nat):Int) by omega) h) fun z hz=>?_;subst hz;refine aH (fun h0=>?_) fun h0=>Ev.some ?_
  ·exact hr _ ⟨i,rfl,by omega,by rw [hx,hd,if_pos h0]⟩ (by omega)
  rw [hx,hd,if_neg h0]
def cB(a:Affine)(d:Int):Bool:=bX a&&decide ((cO a.coefs:Int)≤d)
def dI(l:List Affine)(d:Int):Bool:=l.all (fun a=>cB a d)&&decide (1≤l.length∧l.length≤2)
theorem ltd(a b:Int):decide (a<b)= !decide (b≤a):=by
 by_cases h:a<b
 ·rw [decide_eq_true h,decide_eq_false (by omega)];rfl
 rw [decide_eq_false h,decide_eq_true (by omega)];rfl
theorem O9{n:Nat}(hn:5000≤n){l:List Affine}(hl:S9 l)(d:Int):vT n l d=some (dI l d):=by
 obtain⟨h0,h1⟩:=hl;refine Ev.eq ?_;unfold vT;refine oL (l:=l) (p:=fun _ a=>cB a d) (by omega) (by omega) (fun again i x hx hgo hno=>?_) (fun again hall=>?_) (fun⟨i,x,hx,hp⟩=>?_)
 ·have hi:=(cY.1 hx).1;have hm:=h1 x (cS hx);rw [decide_eq_true (show(i:Int)<(l.length:Int) by omega)];refine b9 (Ev.jn (fun z=>z= !cB x d) (fun j hj=>aA (aS hx) (aA (lW hn x hm) ?_)) fun z hz=>?_)
  ·cases ha:bX x with
   |false=>exact hj _ (by unfold cB;rw [ha];rfl)
   |true=>exact aA (tJ hn hm) (hj _ (by unfold cB;rw [ha,ltd];simp))
  subst hz;cases hb:cB x d with
  |true=>show Ev (again _) _;rw [aN (by omega)];exact hgo hb
  |false=>exact Ev.some (hno hb)
 ·rw [decide_eq_false (show¬(l.length:Int)<(l.length:Int) by omega)];have e:l.all (fun a=>cB a d)=true:=vAF.2 fun c hc=>by obtain⟨i,hi⟩:=vAL hc;exact hall i c hi
  unfold dI;rw [e];refine b6 (Ev.jn (fun z=>z=decide (1≤l.length∧l.length≤2)) (fun j hj=>aH (fun h=>hj _ ?_) fun h=>hj _ ?_) fun z hz=>Ev.some (by rw [hz];rfl))
  ·by_cases h2:l.length≤2
   ·rw [decide_eq_true (show(l.length:Int)≤2 by omega),decide_eq_true (by omega)]
   rw [decide_eq_false (show¬(l.length:Int)≤2 by omega),decide_eq_false (by omega)]
  rw [decide_eq_false (by omega)]
 unfold dI;rw [vAI.2 ⟨x,cS hx,by rw [hp];simp⟩];rfl
theorem aAt{n:Nat}(hn:5000≤n){a:Affine}(ha:SmA a)(d:Int):jF n a d=some (!cB a d):=by
 unfold jF;rw [sO hn a ha];simp only [jn,Option.bind];cases hb:bX a with
 |false=>simp [cB,hb]
 |true=>
  rw [zE hn ha];simp only [cB,hb,Bool.not_true,cond_false,Bool.true_and];rw [ltd]
theorem tT(n k:Nat):cT n (k:Int) 1 2=some (decide (1≤k∧k≤2)):=by
 rw [eS];congr 1;by_cases h:1≤k∧k≤2
 ·rw [decide_eq_true h,decide_eq_true (by omega)]
 rw [decide_eq_false h,decide_eq_false (by omega)]
theorem yF{n:Nat}(hn:5000≤n){l:List Affine}(hl:S9 l)(d:Int):pO n l d=some (dI l d):=by
 obtain⟨h0,h1⟩:=hl;unfold pO;rw [tT];have hc:=nD (n:=n) (f:=fun q0=>jF n q0 d) (p:=fun a=> !cB a d) (l:=l) (fun x hx=>aAt hn (h1 x hx) d) (by omega) (by omega);simp only [jn,Option.bind];rw [hc];unfold dI;have e:(l.any fun a=> !cB a d)= !(l.all fun a=>cB a d):=by
  rw [vAZ];simp
 rw [e];cases decide (1≤l.length∧l.length≤2)<;>simp
def aAq{α:Type}(p:Nat→α→Bool)(l:List α):Bool:=l.zipIdx.all fun q=>p q.2 q.1
theorem qO{α:Type}{p:Nat→α→Bool}{l:List α}(h: ∀(i:Nat) x,l[i]? =some x→p i x=true):aAq p l=true:=
 vAF.2 fun q hq=>h q.2 q.1 (vBc.1 hq)
theorem nS{α:Type}{p:Nat→α→Bool}{l:List α}{i:Nat}{x:α}(h:l[i]? =some x)(hp:p i x=false):aAq p l=false:=
 vAI.2 ⟨(x,i),vBc.2 h,by rw [hp];simp⟩
theorem aAp{α:Type}{p:Nat→α→Bool}{l:List α}(h:aAq p l=true){i:Nat}{x:α}(hx:l[i]? =some x):p i x=true:=
 vAF.1 h (x,i) (vBc.2 hx)
def lA(nest:List Loop):Bool:=aAq (fun i l=>dI l.lo (i:Int)&&dI l.hi (i:Int)) nest&&decide (nest.length≤4)
def SmN(nest:List Loop):Prop:=nest.length≤1000∧ ∀l∈nest,S9 l.lo∧S9 l.hi
theorem aAv{n:Nat}(hn:5000≤n){nest:List Loop}(h:SmN nest):qS n nest=some (lA nest):=by
 obtain⟨h0,h1⟩:=h;refine Ev.eq ?_;unfold qS;refine oL (l:=nest) (p:=fun i l=>dI l.lo (i:Int)&&dI l.hi (i:Int)) (by omega) (by omega) (fun again i x hx hgo hno=>?_) (fun again hall=>?_) (fun⟨i,x,hx,hp⟩=>?_)
 ·have hi:=(cY.1 hx).1;obtain⟨m1,m2⟩:=h1 x (cS hx);rw [decide_eq_true (show(i:Int)<(nest.length:Int) by omega)];refine aA (aS hx) (Ev.jn (fun z=>z= !(dI x.lo (i:Int)&&dI x.hi (i:Int))) (fun j hj=>aA (yF hn m1 _) ?_) fun z hz=>?_)
  ·cases ha:dI x.lo (i:Int) with
   |false=>exact hj _ (by rw [ha];rfl)
   |true=>exact aA (yF hn m2 _) (hj _ (by rw [ha];rfl))
  subst hz;cases hb:(dI x.lo (i:Int)&&dI x.hi (i:Int)) with
  |true=>show Ev (again _) _;rw [aN (by omega)];exact hgo hb
  |false=>exact Ev.some (hno hb)
 ·rw [decide_eq_false (show¬(nest.length:Int)<(nest.length:Int) by omega)];refine Ev.some ?_;unfold lA;rw [qO hall,vAW];exact decide_eq_decide.2 (by omega)
 unfold lA;rw [nS hx hp];rfl
theorem Y1{n:Nat}(hn:5000≤n){nest:List Loop}(h:SmN nest):qL n nest=some (lA nest):=by
 obtain⟨h0,h1⟩:=h;unfold qL;by_cases h4:nest.length≤4
 ·rw [decide_eq_true (show(nest.length:Int)≤4 by omega)];refine Ev.eq ?_;refine oL (l:=nest) (p:=fun i l=>dI l.lo (i:Int)&&dI l.hi (i:Int)) (by omega) (by omega) (fun again i x hx hgo hno=>?_) (fun again hall=>?_) (fun⟨i,x,hx,hp⟩=>?_)
  ·have hi:=(cY.1 hx).1;obtain⟨m1,m2⟩:=h1 x (cS hx);rw [decide_eq_true (show(i:Int)<(nest.length:Int) by omega)];refine Ev.jn (fun z=>z=true) (fun j hj=>b9 (hj _ rfl)) fun z hz=>?_;subst hz;refine b9 (Ev.jn (fun z=>z= !(dI x.lo (i:Int)&&dI x.hi (i:Int))) (fun j hj=>aA (aS hx) (aA (O9 hn m1 _) ?_)) fun z hz=>?_)
   ·cases ha:dI x.lo (i:Int) with
    |false=>exact hj _ (by rw [ha];rfl)
    |true=>exact aA (O9 hn m2 _) (hj _ (by rw [ha];rfl))
   subst hz;cases hb:(dI x.lo (i:Int)&&dI x.hi (i:Int)) with
   |true=>show Ev (again _) _;rw [aN (by omega)];exact hgo hb
   |false=>exact Ev.some (hno hb)
  ·rw [decide_eq_false (show¬(nest.length:Int)<(nest.length:Int) by omega)];refine Ev.jn (fun z=>z=false) (fun j hj=>b6 (hj _ rfl)) fun z hz=>?_;subst hz;refine Ev.some ?_;unfold lA;rw [qO hall,decide_eq_true h4];rfl
  unfold lA;rw [nS hx hp];rfl
 obtain⟨k,rfl⟩: ∃k,n=k+1:=⟨n-1,by omega⟩
 rw [decide_eq_false (show¬(nest.length:Int)≤4 by omega)];unfold lA;rw [decide_eq_false h4,vBj];simp only [aM,jn];cases decide ((0:Int)<(nest.length:Int))<;>rfl
def mx:List Int→Int
 | []=>0
 |x::xs=>xs.foldl max x
def mn:List Int→Int
 | []=>0
 |x::xs=>xs.foldl min x
theorem aNA{l:List Int}(h:l≠[])(x:Int):mx (l++[x])=max (mx l) x:=by
 cases l with
 |nil=>exact absurd rfl h
 |cons a l=>simp [mx,List.foldl_append]
theorem aND{l:List Int}(h:l≠[])(x:Int):mn (l++[x])=min (mn l) x:=by
 cases l with
 |nil=>exact absurd rfl h
 |cons a l=>simp [mn,List.foldl_append]
theorem aOv: ∀(l:List Int) (a:Int),a≤l.foldl max a
 | [],a=>O7 _
 |x::l,a=>Int.le_trans (Int.le_max_left a x) (aOv l (max a x))
theorem aOw: ∀(l:List Int) (a:Int),l.foldl min a≤a
 | [],a=>O7 _
 |x::l,a=>Int.le_trans (aOw l (min a x)) (Int.min_le_left a x)
def evs(l:List Affine)(p:List Int):List Int:=l.map fun a=>cJ a p
def kU(l:Loop)(p:List Int):Int:=mx (evs l.lo p)
def qE(l:Loop)(p:List Int):Int:=mn (evs l.hi p)
def qF(k:Nat)(p:List Int):Prop:=p.length=k∧k≤4∧ptB (100*40^k) p
theorem Z1{k:Nat}(h:k≤4):(0:Int)≤100*40^k∧(100:Int)*40^k≤1000000000:=by
 match k,h with
 |0,_=>decide
 |1,_=>decide
 |2,_=>decide
 |3,_=>decide
 |4,_=>decide
theorem vF{l:List Affine}{d:Int}(h:dI l d=true):1≤l.length∧l.length≤2∧ ∀a∈l,bX a=true:=by
 simp only [dI,Bool.and_eq_true,decide_eq_true_eq,List.all_eq_true] at h;refine⟨h.2.1,h.2.2,fun a ha=>?_⟩
 have:=h.1 a ha;simp only [cB,Bool.and_eq_true] at this;exact this.1
theorem aLx{a:Affine}(ha:bX a=true){k:Nat}{p:List Int}(hp:qF k p)(hk:k≤3): -(40*(100*40^k))≤cJ a p∧cJ a p≤40*(100*40^k):=by
 obtain⟨h1,h2,h3⟩:=jJ ha;obtain⟨p1,p2,p3⟩:=hp;obtain⟨q1,q2⟩:=Z1 (k:=k) (by omega);have hq:(100:Int)≤100*40^k:=by
  match k,hk with
  |0,_=>decide
  |1,_=>decide
  |2,_=>decide
  |3,_=>decide
 generalize (100*40^k:Int)=M at*;have h4:=aL8 (M:=M) q1 (cs:=a.coefs) (xs:=p) h3 fun x hx=>p3 x hx;have h6:9*M*(p.length:Int)≤9*M*3:=Int.mul_le_mul_of_nonneg_left (by omega) (by omega);simp only [kG] at*;unfold cJ;omega
theorem aKF{n:Nat}(hn:5000≤n){a:Affine}(ha:bX a=true){k:Nat}{p:List Int}(hp:qF k p):jT n a p=some (cJ a p):=
 aI8 hn ha (by have:=hp.1;have:=hp.2.1;omega) (Z1 hp.2.1) hp.2.2
theorem aJu{n:Nat}(hn:5000≤n){a:Affine}(ha:bX a=true){k:Nat}{p:List Int}(hp:qF k p):dD n a p=some (cJ a p):=
 aJt hn ha (by have:=hp.1;have:=hp.2.1;omega) (Z1 hp.2.1) hp.2.2
theorem mP{l:List Affine}{p:List Int}{i:Nat}{a:Affine}(h:l[i]? =some a):(evs l p)[i]? =some (cJ a p):=by unfold evs;rw [List.getElem?_map,h];rfl
theorem U9(l:List Affine)(p:List Int):(evs l p).length=l.length:=q7 ..
theorem aH9{α:Type}{l:List α}{i:Nat}(h:1≤i)(hl:1≤l.length):l.take i≠[]:=by
 intro e
 have:(l.take i).length=0:=by rw [e];rfl
 rw [u4] at this;omega
theorem aIl{l:List Int}{i:Nat}{x:Int}(h:l[i]? =some x)(hi:1≤i):mx (l.take (i+1))=max (mx (l.take i)) x:=by have:=(cY.1 h).1;rw [yB,h];exact aNA (aH9 hi (by omega)) x
theorem aIo{l:List Int}{i:Nat}{x:Int}(h:l[i]? =some x)(hi:1≤i):mn (l.take (i+1))=min (mn (l.take i)) x:=by have:=(cY.1 h).1;rw [yB,h];exact aND (aH9 hi (by omega)) x
theorem aGP{l:List Int}{x:Int}(h:l[0]? =some x):mx (l.take 1)=x:=by
 cases l with
 |nil=>simp at h
 |cons a l=>simp at h;subst h;rfl
theorem aGQ{l:List Int}{x:Int}(h:l[0]? =some x):mn (l.take 1)=x:=by
 cases l with
 |nil=>simp at h
 |cons a l=>simp at h;subst h;rfl
theorem X8{n:Nat}(hn:5000≤n){l:Loop}{d d':Int}(h1:dI l.lo d=true)(h2:dI l.hi d'=true){k:Nat}{p:List Int}(hp:qF k p):sC n l p=some (kU l p,qE l p):=by
 obtain⟨a1,a2,a3⟩:=vF h1;obtain⟨b1,b2,b3⟩:=vF h2;have g1:=cP (show 0<l.lo.length by omega);have g2:=cP (show 0<l.hi.length by omega);refine Ev.eq ?_;unfold sC;refine aA (aS (i:=0) g1) (aA (aKF hn (a3 _ (cS g1)) hp) (aA (aS (i:=0) g2) (aA (aKF hn (b3 _ (cS g2)) hp) ?_)));refine Ev.loop (fun x:Int×Int=> ∃i:Nat,x.2=i∧1≤i∧i≤l.lo.length∧x.1=mx ((evs l.lo p).take i)) (fun x=>l.lo.length-x.2.toNat) ?_ n _ ⟨1,rfl,by omega,by omega,(aGP (mP g1)).symm⟩ (by dsimp only;omega);rintro again ⟨x,z⟩ ⟨i,hz,hi1,hi,hx⟩ hr;dsimp only at hz hx⊢;subst hz;refine aH (fun hlt=>?_) fun hge=>?_
 ·have g:=cP (show i<l.lo.length by omega);have e:=aIl (mP (p:=p) g) hi1;refine Ev.jn (fun z=>z=mx ((evs l.lo p).take (i+1))) (fun j hj=>aA (aS g) (aA (aKF hn (a3 _ (cS g)) hp) (aH (fun h=>hj _ ?_) fun h=>hj _ ?_))) fun z hz=>?_
  ·rw [e,←hx];omega
  ·rw [e,←hx];omega
  rw [aN (by omega)];exact hr _ ⟨i+1,by dsimp only;omega,by omega,by omega,hz⟩ (by dsimp only;omega)
 have hie:i=l.lo.length:=by omega
 have hx':x=kU l p:=by rw [hx,hie,←U9 l.lo p,qI];rfl
 refine Ev.loop (fun x:Int×Int=> ∃i:Nat,x.2=i∧1≤i∧i≤l.hi.length∧x.1=mn ((evs l.hi p).take i)) (fun x=>l.hi.length-x.2.toNat) ?_ n _ ⟨1,rfl,by omega,by omega,(aGQ (mP g2)).symm⟩ (by dsimp only;omega);rintro again2 ⟨y,z⟩ ⟨i,hz,hi1,hi,hy⟩ hr2;dsimp only at hz hy⊢;subst hz;refine aH (fun hlt=>?_) fun hge=>Ev.some ?_
 ·have g:=cP (show i<l.hi.length by omega);have e:=aIo (mP (p:=p) g) hi1;refine Ev.jn (fun z=>z=mn ((evs l.hi p).take (i+1))) (fun j hj=>aA (aS g) (aA (aKF hn (b3 _ (cS g)) hp) (aH (fun h=>hj _ ?_) fun h=>hj _ ?_))) fun z hz=>?_
  ·rw [e,←hy];omega
  ·rw [e,←hy];omega
  rw [aN (by omega)];exact hr2 _ ⟨i+1,by dsimp only;omega,by omega,by omega,hz⟩ (by dsimp only;omega)
 have hie:i=l.hi.length:=by omega
 rw [hx',hy,hie,←U9 l.hi p,qI];rfl
theorem aJp{n:Nat}(hn:5000≤n){l:Loop}{d d':Int}(h1:dI l.lo d=true)(h2:dI l.hi d'=true){k:Nat}{p:List Int}(hp:qF k p):qT n l p=some (kU l p,qE l p):=by
 obtain⟨a1,a2,a3⟩:=vF h1;obtain⟨b1,b2,b3⟩:=vF h2;have g1:=cP (show 0<l.lo.length by omega);have g2:=cP (show 0<l.hi.length by omega);refine Ev.eq ?_;unfold qT;refine aA (aS (i:=0) g1) (aA (aJu hn (a3 _ (cS g1)) hp) (aA (aS (i:=0) g2) (aA (aJu hn (b3 _ (cS g2)) hp) ?_)));refine Ev.loop (fun x:Int×Int=> ∃i:Nat,x.2=i∧i≤l.lo.length∧x.1=mx ((evs l.lo p).take (max i 1))) (fun x=>l.lo.length-x.2.toNat) ?_ n _ ⟨0,rfl,by omega,(aGP (mP g1)).symm⟩ (by dsimp only;omega);rintro again ⟨x,z⟩ ⟨i,hz,hi,hx⟩ hr;dsimp only at hz hx⊢;subst hz;refine aH (fun hlt=>?_) fun hge=>?_
 ·have g:=cP (show i<l.lo.length by omega);refine aA (aS g) (aA (aJu hn (a3 _ (cS g)) hp) ?_);rw [aN (by omega)];refine hr _ ⟨i+1,by dsimp only;omega,by omega,?_⟩ (by dsimp only;omega);dsimp only;rw [show max (i+1) 1=i+1 by omega];cases i with
  |zero=>rw [hx,show max 0 1=1 by rfl,m9,aGP (mP g)];omega
  |succ i=>rw [aIl (mP (p:=p) g) (by omega),hx,show max (i+1) 1=i+1 by omega]
 have hie:i=l.lo.length:=by omega
 have hx':x=kU l p:=by rw [hx,hie,Nat.max_eq_left (by omega),←U9 l.lo p,qI];rfl
 refine Ev.loop (fun x:Int×Int=> ∃i:Nat,x.2=i∧i≤l.hi.length∧x.1=mn ((evs l.hi p).take (max i 1))) (fun x=>l.hi.length-x.2.toNat) ?_ n _ ⟨0,rfl,by omega,(aGQ (mP g2)).symm⟩ (by dsimp only;omega);rintro again2 ⟨y,z⟩ ⟨i,hz,hi,hy⟩ hr2;dsimp only at hz hy⊢;subst hz;refine aH (fun hlt=>?_) fun hge=>Ev.some ?_
 ·have g:=cP (show i<l.hi.length by omega);refine aA (aS g) (aA (aJu hn (b3 _ (cS g)) hp) ?_);rw [aN (by omega)];refine hr2 _ ⟨i+1,by dsimp only;omega,by omega,?_⟩ (by dsimp only;omega);dsimp only;rw [show max (i+1) 1=i+1 by omega];cases i with
  |zero=>rw [hy,show max 0 1=1 by rfl,m9,aGQ (mP g)];omega
  |succ i=>rw [aIo (mP (p:=p) g) (by omega),hy,show max (i+1) 1=i+1 by omega]
 have hie:i=l.hi.length:=by omega
 rw [hx',hy,hie,Nat.max_eq_left (by omega),←U9 l.hi p,qI];rfl
theorem T8{l:Loop}{d d':Int}(h1:dI l.lo d=true)(h2:dI l.hi d'=true){k:Nat}{p:List Int}(hp:qF k p)(hk:k≤3){v:Int}(hv:kU l p≤v∧v<qE l p):qF (k+1) (p++[v]):=by
 obtain⟨a1,a2,a3⟩:=vF h1;obtain⟨b1,b2,b3⟩:=vF h2;have e1: -(40*(100*40^k))≤kU l p:=by
  cases hl:l.lo with
  |nil=>rw [hl] at a1;simp at a1
  |cons a as=>
   have:=(aLx (a3 a (by rw [hl];simp)) hp hk).1;unfold kU evs;rw [hl];exact Int.le_trans this (aOv _ _)
 have e2:qE l p≤40*(100*40^k):=by
  cases hl:l.hi with
  |nil=>rw [hl] at b1;simp at b1
  |cons a as=>
   have:=(aLx (b3 a (by rw [hl];simp)) hp hk).2;unfold qE evs;rw [hl];exact Int.le_trans (aOw _ _) this
 obtain⟨p1,p2,p3⟩:=hp;have e3:(100*40^(k+1):Int)=40*(100*40^k):=by rw [Int.pow_succ];omega
 have q:=(Z1 (k:=k) (by omega)).1;refine⟨by simp [p1],by omega,fun x hx=>?_⟩;rw [e3];rcases yA.1 hx with h|h
 ·have:=p3 x h;simp only [kG] at this⊢;omega
 simp at h;subst h;simp only [kG];omega
def pts:List Loop→List Int→List (List Int)
 | [],p=>[p]
 |l::ls,p=>(kE (kU l p) (qE l p)).flatMap fun v=>pts ls (p++[v])
def wk:List Loop→List Int→Int
 | [],_=>1
 |l::ls,p=>1+((kE (kU l p) (qE l p)).map fun v=>wk ls (p++[v])).sum
theorem pD{α:Type}(f:α→Int): ∀(l:List α),(∀x∈l,1≤f x)→(l.length:Int)≤(l.map f).sum
 | [],_=>by simp
 |x::l,h=>by have h1:=pD f l fun y hy=>h y (by simp [hy]);have h2:=h x (by simp);simp only [List.map_cons,List.sum_cons,List.length_cons];omega
theorem aCZ: ∀(ls:List Loop) (p:List Int),1≤wk ls p
 | [],p=>O7 _
 |l::ls,p=>by have:=pD (fun v=>wk ls (p++[v])) (kE (kU l p) (qE l p)) fun v _=>aCZ ls _;simp only [wk];omega
def Fit(nest:List Loop):Prop:=nest.length≤4∧ ∀(i:Nat) l,nest[i]? =some l→dI l.lo (i:Int)=true∧dI l.hi (i:Int)=true
theorem aDy{nest:List Loop}(h:lA nest=true):Fit nest:=by
 simp only [lA,Bool.and_eq_true,decide_eq_true_eq] at h;refine⟨h.2,fun i l hl=>?_⟩
 have:=aAp h.1 hl;simpa [Bool.and_eq_true] using this
theorem xQ{nest:List Loop}{k:Nat}{l:Loop}{ls:List Loop}(h:nest.drop k=l::ls):nest[k]? =some l∧nest.drop (k+1)=ls∧k<nest.length:=by
 have h1:(nest.drop k)[0]? =some l:=by rw [h];rfl
 rw [vAC,vBu] at h1;refine⟨h1,?_,(cY.1 h1).1⟩
 have:(nest.drop k).drop 1=ls:=by rw [h];rfl
 rwa [List.drop_drop] at this
theorem H1{nest:List Loop}{k:Nat}(h:nest.drop k=[])(hk:k≤nest.length):k=nest.length:=by
 have:(nest.drop k).length=0:=by rw [h];rfl
 rw [vAU] at this;omega
theorem eB(p:List Int)(h:p.length≤1000):app [] p=some p:=by rw [bW (by simp;omega)];rfl
theorem aEt(l:List Int)(f:Int→Int)(v:Int):((l++[v]).map f).sum=(l.map f).sum+f v:=by simp
theorem aNo{lo v:Int}(h:lo≤v):((kE lo v).length:Int)=v-lo:=by unfold kE;simp;omega
theorem aBZ{nest:List Loop}(hf:Fit nest): ∀(ls:List Loop) (n k:Nat) (p:List Int) (most:Int),5000+ls.length≤n→nest.drop k=ls→k≤nest.length→qF k p→0≤most→most≤1200→
  Ev (s_l2Work n nest p most) (fun r=>(wk ls p≤most→r=wk ls p)∧(most<wk ls p→most<r)∧1≤r∧r≤most+1)
 | [],n,k,p,most,hn,hd,hk,hp,h0,h1=>by
  obtain⟨n,rfl⟩: ∃j,n=j+1:=⟨n-1,by omega⟩
  have hk':=H1 hd hk;have hpl:=hp.1;unfold s_l2Work;rw [decide_eq_true (show(p.length:Int)=(nest.length:Int) by omega)];exact Ev.some ⟨fun _=>rfl,fun h=>by simp only [wk] at h;omega,by omega,by omega⟩
 |l::ls,n,k,p,most,hn,hd,hk,hp,h0,h1=>by
  obtain⟨n,rfl⟩: ∃j,n=j+1:=⟨n-1,by omega⟩
  obtain⟨d1,d2,d3⟩:=xQ hd;obtain⟨s1,s2⟩:=hf.2 k l d1;have hpl:=hp.1;have hk3:k≤3:=by have:=hf.1;omega
  simp only [List.length_cons] at hn;unfold s_l2Work;rw [decide_eq_false (show¬(p.length:Int)=(nest.length:Int) by omega)];refine b6 (aA (x:=l) (by rw [hpl];exact aS d1) (aA (X8 (by omega) s1 s2 hp) ?_));let f:Int→Int:=fun v=>wk ls (p++[v]);have hfp: ∀v,1≤f v:=fun v=>aCZ _ _;have hW:wk (l::ls) p=1+((kE (kU l p) (qE l p)).map f).sum:=rfl;refine Ev.loop (fun x:Int×Int=>kU l p≤x.2∧(x.2≤qE l p∨x.2=kU l p)∧(1+((kE (kU l p) x.2).map f).sum≤most→x.1=1+((kE (kU l p) x.2).map f).sum)∧(most<1+((kE (kU l p) x.2).map f).sum→most<x.1)∧1≤x.1∧x.1≤most+1)
   (fun x=>(most+1-x.1).toNat) ?_ n _ ⟨O7 _,.inr rfl,fun _=>by rw [jD (O7 _)];rfl,fun h=>by rw [jD (O7 _)] at h;simp at h;dsimp only;omega,by dsimp only;omega,by dsimp only;omega⟩ (by dsimp only;omega)
  rintro again ⟨x,v⟩ ⟨i1,i2,i3,i4,i5,i6⟩ hr;dsimp only at i1 i2 i3 i4 i5 i6⊢;refine Ev.jn (fun z=>z=decide (v<qE l p∧x≤most)) (fun j hj=>aH (fun h=>hj _ ?_) fun h=>hj _ ?_) fun z hz=>?_
  ·by_cases hx:x≤most
   ·rw [decide_eq_true hx,decide_eq_true ⟨h,hx⟩]
   rw [decide_eq_false hx,decide_eq_false fun h=>hx h.2]
  ·rw [decide_eq_false fun h'=>h h'.1]
  subst hz;refine aH (fun⟨hv,hx⟩=>?_) fun hno=>Ev.some ?_
  ·have hsum:x=1+((kE (kU l p) v).map f).sum:=i3 (by apply Int.not_lt.1;intro h;have:=i4 h;omega);have hp':=T8 s1 s2 hp hk3 ⟨i1,hv⟩;have e1:wr (most-x)=most-x:=by rw [aN (by omega)]
   rw [e1];refine aA (eB p (by omega)) (aA (bW (by simp;omega)) (aO (aBZ hf ls n (k+1) (p++[v]) (most-x) (by omega) d2 (by omega) hp' (by omega) (by omega)) fun r ⟨r1,r2,r3,r4⟩=>?_));have hvb:v<qE l p:=hv;have hvr: -1000000000≤v∧v≤1000000000:=by
    have h9:=hp'.2.2 v (by simp);have h8:=Z1 hp'.2.1;simp only [kG] at h9;omega
   rw [aN (n:=v+1) (by omega),aN (n:=x+r) (by omega)];have hs:1+((kE (kU l p) (v+1)).map f).sum=x+f v:=by rw [pI i1,aEt,hsum];omega
   refine hr _ ⟨by dsimp only;omega,.inl (by dsimp only;omega),?_,?_,by dsimp only;omega,by dsimp only;omega⟩ (by dsimp only;omega)
   ·dsimp only;rw [hs];intro h
    have:r=f v:=r1 (show f v≤most-x by omega);omega
   dsimp only;rw [hs];intro h
   have:most-x<r:=r2 (show most-x<f v by omega);omega
  have hmono:1+((kE (kU l p) v).map f).sum≤wk (l::ls) p∧(qE l p≤v→1+((kE (kU l p) v).map f).sum=wk (l::ls) p):=by
   rw [hW];by_cases h:v<qE l p
   ·refine⟨?_,fun h'=>by omega⟩;rw [xD i1 h,vAM,List.sum_append,vBU,List.sum_cons]
    have:=pD f (kE (v+1) (qE l p)) fun y _=>hfp y
    have:=hfp v;omega
   have:kE (kU l p) v=kE (kU l p) (qE l p):=by
    rcases i2 with h2|h2
    ·rw [show v=qE l p by omega]
    subst h2;rw [jD (O7 _),jD (by omega)]
   rw [this];exact⟨O7 _,fun _=>rfl⟩
  refine⟨fun h=>?_,fun h=>?_,i5,i6⟩
  ·have hx:=i3 (by omega);rw [hx];apply hmono.2;apply Int.not_lt.1;intro hv;exact hno ⟨hv,by omega⟩
  apply Int.not_le.1;intro hx;have hv:qE l p≤v:=by apply Int.not_lt.1;intro hv;exact hno ⟨hv,hx⟩
  have:=i4 (by rw [hmono.2 hv];exact h);omega
theorem vH{nest:List Loop}(hf:Fit nest): ∀(ls:List Loop) (n k:Nat) (p:List Int) (out:List (List Int)),5000+ls.length≤n→nest.drop k=ls→k≤nest.length→qF k p→wk ls p≤1200→out.length≤120→
  Ev (s_l2Points n out nest p) (fun r=>(out.length+(pts ls p).length≤120→r=out++pts ls p)∧(120<out.length+(pts ls p).length→120<r.length))
 | [],n,k,p,out,hn,hd,hk,hp,h0,h1=>by
  obtain⟨n,rfl⟩: ∃j,n=j+1:=⟨n-1,by omega⟩
  have hk':=H1 hd hk;have hpl:=hp.1;have hf1:=hf.1;unfold s_l2Points;rw [decide_eq_true (show(p.length:Int)=(nest.length:Int) by omega)];refine b9 (aA (eB p (by omega)) (aA (bW (by simp;omega)) (Ev.some ⟨fun _=>rfl,fun h=>by simp [pts] at h ⊢; omega⟩)))
 |l::ls,n,k,p,out,hn,hd,hk,hp,h0,h1=>by
  obtain⟨n,rfl⟩: ∃j,n=j+1:=⟨n-1,by omega⟩
  obtain⟨d1,d2,d3⟩:=xQ hd;obtain⟨s1,s2⟩:=hf.2 k l d1;have hpl:=hp.1;have hf1:=hf.1;have hk3:k≤3:=by omega
  simp only [List.length_cons] at hn;unfold s_l2Points;rw [decide_eq_false (show¬(p.length:Int)=(nest.length:Int) by omega)];refine b6 (aA (x:=l) (by rw [hpl];exact aS d1) (aA (X8 (by omega) s1 s2 hp) ?_));let f:Int→Int:=fun v=>wk ls (p++[v]);have hfp: ∀v,1≤f v:=fun v=>aCZ _ _;have hW:wk (l::ls) p=1+((kE (kU l p) (qE l p)).map f).sum:=rfl;let g:Int→List (List Int):=fun v=>pts ls (p++[v]);have hP:pts (l::ls) p=(kE (kU l p) (qE l p)).flatMap g:=rfl;have hlen:kU l p≤qE l p→qE l p-kU l p≤1199:=fun hle=>by
   have:=pD f (kE (kU l p) (qE l p)) fun y _=>hfp y
   have:=aNo hle;omega
  refine Ev.loop (fun x:List (List Int)×Int=>kU l p≤x.2∧(x.2≤qE l p∨x.2=kU l p)∧(out.length+((kE (kU l p) x.2).flatMap g).length≤120→x.1=out++(kE (kU l p) x.2).flatMap g)∧(120<out.length+((kE (kU l p) x.2).flatMap g).length→120<x.1.length))
   (fun x=>(qE l p-x.2).toNat) ?_ n _ ⟨O7 _,.inr rfl,fun _=>by rw [jD (O7 _)];simp,fun h=>by rw [jD (O7 _)] at h;simp at h;omega⟩ (by dsimp only;omega)
  rintro again ⟨x,v⟩ ⟨i1,i2,i3,i4⟩ hr;dsimp only at i1 i2 i3 i4⊢;refine Ev.jn (fun z=>z=decide (v<qE l p∧x.length≤120)) (fun j hj=>aH (fun h=>hj _ ?_) fun h=>hj _ ?_) fun z hz=>?_
  ·by_cases hx:x.length≤120
   ·rw [decide_eq_true (show(x.length:Int)≤120 by omega),decide_eq_true ⟨h,hx⟩]
   rw [decide_eq_false (show¬(x.length:Int)≤120 by omega),decide_eq_false fun h=>hx h.2]
  ·rw [decide_eq_false fun h'=>h h'.1]
  subst hz;refine aH (fun⟨hv,hx⟩=>?_) fun hno=>Ev.some ?_
  ·have hxe:x=out++(kE (kU l p) v).flatMap g:=i3 (by apply Nat.not_lt.1;intro h;have:=i4 h;omega);have hp':=T8 s1 s2 hp hk3 ⟨i1,hv⟩;have hwc:f v≤1200:=by
    rw [hW,xD i1 hv,vAM,List.sum_append,vBU,List.sum_cons] at h0
    have:=pD f (kE (v+1) (qE l p)) fun y _=>hfp y
    have:=pD f (kE (kU l p) v) fun y _=>hfp y;omega
   refine aA (eB p (by omega)) (aA (bW (by simp;omega)) (aO (vH hf ls n (k+1) (p++[v]) x (by omega) d2 (by omega) hp' hwc hx) fun r ⟨r1,r2⟩=>?_));have hvr: -1000000000≤v∧v≤1000000000:=by
    have h9:=hp'.2.2 v (by simp);have h8:=Z1 hp'.2.1;simp only [kG] at h9;omega
   rw [aN (n:=v+1) (by omega)];have hs:(kE (kU l p) (v+1)).flatMap g=(kE (kU l p) v).flatMap g++g v:=by rw [pI i1,vBa];simp
   refine hr _ ⟨by dsimp only;omega,.inl (by dsimp only;omega),?_,?_⟩ (by dsimp only;omega)
   ·dsimp only;rw [hs];intro h;simp only [List.length_append] at h;have hl:x.length=out.length+((kE (kU l p) v).flatMap g).length:=by rw [hxe,qJ]
    rw [r1 (show x.length+(g v).length≤120 by omega),hxe,vAK]
   dsimp only;rw [hs];intro h;simp only [List.length_append] at h;have hl:x.length=out.length+((kE (kU l p) v).flatMap g).length:=by rw [hxe,qJ]
   exact r2 (show 120<x.length+(g v).length by omega)
  have hmono:((kE (kU l p) v).flatMap g).length≤(pts (l::ls) p).length∧(qE l p≤v→(kE (kU l p) v).flatMap g=pts (l::ls) p):=by
   rw [hP];by_cases h:v<qE l p
   ·refine⟨?_,fun h'=>by omega⟩;rw [xD i1 h,vBa,qJ];omega
   have:kE (kU l p) v=kE (kU l p) (qE l p):=by
    rcases i2 with h2|h2
    ·rw [show v=qE l p by omega]
    subst h2;rw [jD (O7 _),jD (by omega)]
   rw [this];exact⟨kC _,fun _=>rfl⟩
  refine⟨fun h=>?_,fun h=>?_⟩
  ·have hx:=i3 (by omega);rw [hx,hmono.2];apply Int.not_lt.1;intro hv;exact hno ⟨hv,by rw [hx,qJ];omega⟩
  apply Nat.not_le.1;intro hx;have hv:qE l p≤v:=by apply Int.not_lt.1;intro hv;exact hno ⟨hv,hx⟩
  have:=i4 (by rw [hmono.2 hv];exact h);omega
theorem aCx{nest:List Loop}(hf:Fit nest): ∀(ls:List Loop) (n k:Nat) (p:List Int) (st:Int) (out:List (List Int)),5000+ls.length≤n→nest.drop k=ls→k≤nest.length→qF k p→0≤st→st≤1199→out.length≤120→
  Ev (i_walking_walk n ⟨nest,st,out⟩ p) (fun r=>(st+wk ls p≤1200∧out.length+(pts ls p).length≤120→r=(true,⟨nest,st+wk ls p-1,out++pts ls p⟩))∧(¬(st+wk ls p≤1200∧out.length+(pts ls p).length≤120)→r.1=false))
 | [],n,k,p,st,out,hn,hd,hk,hp,h0,h1,h2=>by
  obtain⟨n,rfl⟩: ∃j,n=j+1:=⟨n-1,by omega⟩
  have hk':=H1 hd hk;have hpl:=hp.1;have hf1:=hf.1;unfold i_walking_walk;dsimp only;rw [decide_eq_true (show(p.length:Int)=(nest.length:Int) by omega)];have hc:m_ownClone p=some p:=by unfold m_ownClone;rw [if_pos (by omega)]
  refine b9 (aA hc (aA (bW (by simp;omega)) (Ev.some ⟨fun h=>?_,fun h=>?_⟩)))
  ·simp only [wk,pts,List.length_singleton] at h⊢;rw [decide_eq_true (by simp;omega),show st+1-1=st by omega]
  simp only [wk,pts,List.length_singleton] at h⊢;exact decide_eq_false (by simp;omega)
 |l::ls,n,k,p,st,out,hn,hd,hk,hp,h0,h1,h2=>by
  obtain⟨n,rfl⟩: ∃j,n=j+1:=⟨n-1,by omega⟩
  obtain⟨d1,d2,d3⟩:=xQ hd;obtain⟨s1,s2⟩:=hf.2 k l d1;have hpl:=hp.1;have hf1:=hf.1;have hk3:k≤3:=by omega
  simp only [List.length_cons] at hn;unfold i_walking_walk;dsimp only;rw [decide_eq_false (show¬(p.length:Int)=(nest.length:Int) by omega)];refine b6 (aA (x:=l) (by rw [hpl];exact aS d1) (aA (aJp (by omega) s1 s2 hp) ?_));let f:Int→Int:=fun v=>wk ls (p++[v]);have hfp: ∀v,1≤f v:=fun v=>aCZ _ _;have hW:wk (l::ls) p=1+((kE (kU l p) (qE l p)).map f).sum:=rfl;let g:Int→List (List Int):=fun v=>pts ls (p++[v]);have hP:pts (l::ls) p=(kE (kU l p) (qE l p)).flatMap g:=rfl;refine Ev.loop (fun x:List Loop×Int×List (List Int)×Int=>x.1=nest∧kU l p≤x.2.2.2∧(x.2.2.2≤qE l p∨x.2.2.2=kU l p)∧x.2.1=st+((kE (kU l p) x.2.2.2).map f).sum∧x.2.2.1=out++(kE (kU l p) x.2.2.2).flatMap g∧0≤x.2.1∧x.2.1≤1199∧x.2.2.1.length≤120)
   (fun x=>(1200-x.2.1).toNat) ?_ n _ ⟨rfl,O7 _,.inr rfl,by dsimp only;rw [jD (O7 _)];simp,by dsimp only;rw [jD (O7 _)];simp,h0,h1,h2⟩ (by dsimp only;omega)
  rintro again ⟨nst,x,o,v⟩ ⟨i0,i1,i2,i3,i4,i5,i6,i7⟩ hr;dsimp only at i0 i1 i2 i3 i4 i5 i6 i7⊢;subst i0;have hol:o.length=out.length+((kE (kU l p) v).flatMap g).length:=by rw [i4,qJ]
  refine aH (fun hv=>?_) fun hv=>Ev.some ?_
  ·have hp':=T8 s1 s2 hp hk3 ⟨i1,hv⟩;have hrest:wk (l::ls) p≥1+((kE (kU l p) v).map f).sum+f v∧(pts (l::ls) p).length≥((kE (kU l p) v).flatMap g).length+(g v).length:=by
    rw [hW,hP,xD i1 hv,vAM,List.sum_append,vBU,List.sum_cons,vBa,qJ,vBD,qJ]
    have:=pD f (kE (v+1) (qE l p)) fun y _=>hfp y;constructor
    ·omega
    omega
   have hvr: -1000000000≤v∧v≤1000000000:=by
    have h9:=hp'.2.2 v (by simp);have h8:=Z1 hp'.2.1;simp only [kG] at h9;omega
   have e1:wr (x+1)=x+1:=by rw [aN (by omega)]
   have e2:wr (x+1+1)=x+1+1:=by rw [aN (by omega)]
   have e3:wr (v+1)=v+1:=by rw [aN (by omega)]
   rw [e1,e2,e3];refine Ev.jn (fun z:List Loop×Int×List (List Int)×Bool=>(z.2.2.2=false→z.1=nst∧x+f v≤1199∧o.length+(g v).length≤120∧z.2.1=x+f v∧z.2.2.1=o++g v)∧(z.2.2.2=true→ ¬(st+wk (l::ls) p≤1200∧out.length+(pts (l::ls) p).length≤120)))
    (fun j hj=>aH (fun h=>hj _ ⟨fun h'=>(by cases h'),fun _=>?_⟩) fun h=>?_) fun z hz=>?_
   ·have:=hfp v;omega
   ·have hc:m_ownClone p=some p:=by unfold m_ownClone;rw [if_pos (by omega)]
    refine aA hc (aA (bW (by simp;omega)) (aO (aCx hf ls n (k+1) (p++[v]) (x+1) o (by omega) d2 (by omega) hp' (by omega) (by omega) i7) fun r ⟨r1,r2⟩=>?_));by_cases hc:x+1+f v≤1200∧o.length+(g v).length≤120
    ·rw [r1 hc];exact hj _ ⟨fun _=>⟨rfl,by omega,hc.2,show x+1+f v-1=x+f v by omega,rfl⟩,fun h=>(by cases h)⟩
    have hr1:=r2 hc;obtain⟨rb,⟨rn,rs,ro⟩⟩:=r;dsimp only at hr1⊢;subst hr1;exact hj _ ⟨fun h=>(by cases h),fun _=>by omega⟩
   obtain⟨za,zb,zc,zd⟩:=z;obtain⟨z2,z3⟩:=hz;dsimp only at z2 z3⊢;cases zd with
   |true=>exact Ev.some ⟨fun h=>absurd h (z3 rfl),fun _=>rfl⟩
   |false=>
    obtain⟨rfl,y1,y2,y3,y4⟩:=z2 rfl;refine hr _ ⟨rfl,by dsimp only;omega,.inl (by dsimp only;omega),?_,?_,by dsimp only;have:=hfp v;omega,by dsimp only;omega,?_⟩ (by dsimp only;have:=hfp v;omega)
    ·dsimp only;rw [pI i1,aEt,y3,i3];omega
    ·dsimp only;rw [y4,i4,pI i1,vBa];simp
    dsimp only;rw [y4,qJ];exact y2
  have:kE (kU l p) v=kE (kU l p) (qE l p):=by
   rcases i2 with h2|h2
   ·rw [show v=qE l p by omega]
   subst h2;rw [jD (O7 _),jD (by omega)]
  rw [this] at i3 i4 hol;rw [←hP] at i4 hol;refine⟨fun h=>?_,fun h=>?_⟩
  ·rw [i4,i3,hW,show st+(1+((kE (kU l p) (qE l p)).map f).sum)-1=st+((kE (kU l p) (qE l p)).map f).sum by omega]
  exact absurd ⟨by omega,by omega⟩ h
def NP(nest:List Loop):Option (List (List Int)):=if lA nest=true∧wk nest []≤1200∧(pts nest []).length≤120 then some (pts nest []) else none
def aHi:Option (List (List Int))→List (List Int)×Bool
 |none=>([],false)
 |some l=>(l,true)
theorem pt0:qF 0 []:=⟨rfl,by omega,fun x h=>by cases h⟩
theorem R8{n:Nat}(hn:6000≤n){nest:List Loop}(h:SmN nest):nV n nest=some (aHi (NP nest)):=by
 refine Ev.eq ?_;unfold nV;refine aA (aAv (by omega) h) ?_;unfold NP;cases hv:lA nest with
 |false=>exact Ev.some (by simp [aHi])
 |true=>
  have hf:=aDy hv;refine aO (aCx hf nest n 0 [] 0 [] (by have:=hf.1;omega) rfl (by omega) pt0 (by omega) (by omega) (by simp)) fun r ⟨r1,r2⟩=>?_;by_cases hc:(0:Int)+wk nest []≤1200∧([]:List (List Int)).length+(pts nest []).length≤120
  ·rw [r1 hc,if_pos ⟨rfl,by omega,by simpa using hc.2⟩];exact Ev.some (by simp [aHi])
  rw [r2 hc,if_neg fun h=>hc ⟨by omega,by simpa using h.2.2⟩];exact Ev.some rfl
theorem R4{n:Nat}(hn:6000≤n){nest:List Loop}(h:SmN nest):nN n nest=some (aHi (NP nest)):=by
 refine Ev.eq ?_;unfold nN;refine Ev.jn (fun z=>z= !(lA nest&&decide (wk nest []≤1200))) (fun j hj=>aA (Y1 (by omega) h) ?_) fun z hz=>?_
 ·cases hv:lA nest with
  |false=>exact hj _ (by rw [hv];rfl)
  |true=>
   have hf:=aDy hv;refine aO (aBZ hf nest n 0 [] 1200 (by have:=hf.1;omega) rfl (by omega) pt0 (by omega) (by omega)) fun r ⟨r1,r2,r3,r4⟩=>hj _ ?_;rw [hv,vAW];by_cases hw:wk nest []≤1200
   ·rw [decide_eq_true hw,decide_eq_false (by rw [r1 hw];omega)];rfl
   rw [decide_eq_false hw,decide_eq_true (r2 (by omega))];rfl
 subst hz;unfold NP;cases hv:lA nest with
 |false=>exact Ev.some (by simp [aHi])
 |true=>
  have hf:=aDy hv;by_cases hw:wk nest []≤1200
  ·rw [decide_eq_true hw];refine aO (vH hf nest n 0 [] [] (by have:=hf.1;omega) rfl (by omega) pt0 hw (by simp)) fun r ⟨r1,r2⟩=>?_;by_cases hl:(pts nest []).length≤120
   ·rw [r1 (by simpa using hl),if_pos ⟨rfl,hw,hl⟩];refine aH (fun h=>absurd h (by simp;omega)) fun _=>Ev.some (by simp [aHi])
   have:=r2 (by simp;omega);rw [if_neg fun h=>hl h.2.2];exact aH (fun _=>Ev.some rfl) fun h=>absurd h (by omega)
  rw [decide_eq_false hw,if_neg fun h=>hw h.2.1];exact Ev.some rfl
def pJ(s:List UInt8):Bool:=match s with
 | [b]=>decide (65≤b.toNat∧b.toNat≤68)
 |_=>false
theorem yX{s:List UInt8}(h:s.length≠1):pJ s=false:=by
 match s,h with
 | [],_=>rfl
 | [b],h=>exact absurd rfl h
 |_::_::_,_=>rfl
theorem aPj{s:List UInt8}(h:s.length=1): ∃b,s=[b]:=by
 match s,h with
 | [b],_=>exact⟨b,rfl⟩
theorem aKh(b:UInt8)(k:Nat)(hk:k<256):(b=UInt8.ofNat k)↔b.toNat=k:=by
 constructor
 ·intro h;rw [h];simp;omega
 intro h;rw [←h];simp
theorem aBF(b:UInt8):Lib.contains [65,66,67,68] [b]=decide (65≤b.toNat∧b.toNat≤68):=by
 have e1:(b=65)↔b.toNat=65:=aKh b 65 (by omega);have e2:(b=66)↔b.toNat=66:=aKh b 66 (by omega);have e3:(b=67)↔b.toNat=67:=aKh b 67 (by omega);have e4:(b=68)↔b.toNat=68:=aKh b 68 (by omega);by_cases h1:b=65
 ·subst h1;decide
 by_cases h2:b=66
 ·subst h2;decide
 by_cases h3:b=67
 ·subst h3;decide
 by_cases h4:b=68
 ·subst h4;decide
 rw [e1] at h1;rw [e2] at h2;rw [e3] at h3;rw [e4] at h4;rw [decide_eq_false (by omega)];rw [←e1] at h1;rw [←e2] at h2;rw [←e3] at h3;rw [←e4] at h4;simp [Lib.contains,Lib.index,h1,h2,h3,h4]
theorem G5(n:Nat)(s:List UInt8):sN n s=some (pJ s):=by
 unfold sN;by_cases h:s.length=1
 ·obtain⟨b,rfl⟩:=aPj h;simp only [jn,m_contains];rw [if_pos (by simp),aBF];rfl
 rw [decide_eq_false (show¬(s.length:Int)=1 by omega),yX h];rfl
theorem aAh(b:UInt8):Op.bytesLess [b] [65]=decide (b.toNat<65):=by simp [Op.bytesLess,UInt8.lt_iff_toNat_lt]
theorem aAg(b:UInt8):(Op.bytesLess [b] [68]||[b]==[68])=decide (b.toNat≤68):=by
 have e:(b=68)↔b.toNat=68:=aKh b 68 (by omega);by_cases h:b=68
 ·subst h;decide
 have h':b.toNat≠68:=fun e'=>h (e.2 e')
 have:([b]==[(68:UInt8)])=false:=by simp [h]
 rw [this,Bool.or_false];simp only [Op.bytesLess,Bool.and_false,Bool.or_false,UInt8.lt_iff_toNat_lt];apply decide_eq_decide.2;show b.toNat<68↔_;omega
def gY(a:Access)(d:Int):Bool:=a.subs.all (fun x=>cB x d)&&(pJ a.array&&decide (1≤a.subs.length∧a.subs.length≤2))
theorem aJw{n:Nat}(hn:5000≤n){a:Affine}(ha:SmA a)(d:Int):lF n a d=some (!cB a d):=aAt hn ha d
theorem yG{n:Nat}(hn:5000≤n){a:Access}(ha:S9 a.subs)(d:Int):pP n a d=some (gY a d):=by
 obtain⟨h0,h1⟩:=ha;unfold pP;rw [G5,tT];have hc:=nD (n:=n) (f:=fun q0=>lF n q0 d) (p:=fun a=> !cB a d) (l:=a.subs) (fun x hx=>aJw hn (h1 x hx) d) (by omega) (by omega);simp only [jn,Option.bind];rw [hc];unfold gY;have e:(a.subs.any fun a=> !cB a d)= !(a.subs.all fun a=>cB a d):=by
  rw [vAZ];simp
 rw [e];cases pJ a.array<;>cases decide (1≤a.subs.length∧a.subs.length≤2)<;>simp
theorem yD{n:Nat}(hn:5000≤n){a:Access}(ha:S9 a.subs)(d:Int):pF n a d=some (gY a d):=by
 obtain⟨h0,h1⟩:=ha;refine Ev.eq ?_;unfold pF;refine oL (l:=a.subs) (p:=fun _ a=>cB a d) (by omega) (by omega) (fun again i x hx hgo hno=>?_) (fun again hall=>?_) (fun⟨i,x,hx,hp⟩=>?_)
 ·have hi:=(cY.1 hx).1;have hm:=h1 x (cS hx);rw [decide_eq_true (show(i:Int)<(a.subs.length:Int) by omega)];refine b9 (Ev.jn (fun z=>z= !cB x d) (fun j hj=>aA (aS hx) (aA (lW hn x hm) ?_)) fun z hz=>?_)
  ·cases ha:bX x with
   |false=>exact hj _ (by unfold cB;rw [ha];rfl)
   |true=>exact aA (tJ hn hm) (hj _ (by unfold cB;rw [ha,ltd];simp))
  subst hz;cases hb:cB x d with
  |true=>show Ev (again _) _;rw [aN (by omega)];exact hgo hb
  |false=>exact Ev.some (hno hb)
 ·rw [decide_eq_false (show¬(a.subs.length:Int)<(a.subs.length:Int) by omega)];have e:a.subs.all (fun a=>cB a d)=true:=vAF.2 fun c hc=>by obtain⟨i,hi⟩:=vAL hc;exact hall i c hi
  unfold gY;rw [e,vAW];refine b6 (Ev.jn (fun z=>z=(pJ a.array&&decide (1≤a.subs.length∧a.subs.length≤2))) (fun j hj=>?_) fun z hz=>Ev.some hz);by_cases h:a.array.length=1
  ·rw [decide_eq_true (show(a.array.length:Int)=1 by omega)];obtain⟨b,hb⟩:=aPj h;rw [hb] at hj⊢;rw [aAh,aAg];show Ev (bif _ then _ else _) _;simp only [pJ] at hj⊢;by_cases g1:b.toNat<65
   ·rw [decide_eq_true g1];exact hj _ (by rw [decide_eq_false (show¬(65≤b.toNat∧b.toNat≤68) by omega)];rfl)
   rw [decide_eq_false g1];by_cases g2:b.toNat≤68
   ·rw [decide_eq_true g2];rw [decide_eq_true (show 65≤b.toNat∧b.toNat≤68 by omega)] at hj⊢;refine aH (fun h=>hj _ ?_) fun h=>hj _ ?_
    ·by_cases h2:a.subs.length≤2
     ·rw [decide_eq_true (show(a.subs.length:Int)≤2 by omega),decide_eq_true (by omega)];rfl
     rw [decide_eq_false (show¬(a.subs.length:Int)≤2 by omega),decide_eq_false (by omega)];rfl
    rw [decide_eq_false (by omega)];rfl
   rw [decide_eq_false g2];exact hj _ (by rw [decide_eq_false (show¬(65≤b.toNat∧b.toNat≤68) by omega)];rfl)
  rw [decide_eq_false (show¬(a.array.length:Int)=1 by omega)];exact hj _ (by rw [yX h];rfl)
 unfold gY;rw [vAI.2 ⟨x,cS hx,by rw [hp];simp⟩];rfl
def jV(a:Affine):Bool:=decide (a.coefs.length=0)&&decide (a.const=0)
def nG(a:Access):Bool:=decide (a.array=[])&&decide (a.subs.length=0)
theorem aNJ(k:Nat):decide ((k:Int)=0)=decide (k=0):=decide_eq_decide.2 (by omega)
theorem aBA(n:Nat)(a:Affine):pL n a=some (jV a):=by unfold pL jV;rw [aNJ];cases decide (a.coefs.length=0)<;>rfl
theorem aEA(n:Nat)(a:Affine):sA n a=some (jV a):=by unfold sA jV;rw [aNJ];cases decide (a.coefs.length=0)<;>rfl
theorem aBB(n:Nat)(a:Access):kL n a=some (nG a):=by unfold kL nG;rw [aNJ];cases decide (a.array=[])<;>rfl
theorem aDa(n:Nat)(a:Access):oZ n a=some (nG a):=by unfold oZ nG;rw [aNJ];cases decide (a.array=[])<;>rfl
def gC(e:Expr)(d:Int):Bool:=
 if e.kind=2 then decide (e.num=0)&&(nG e.read&&cB e.index d)
 else if e.kind=3 then decide (e.num=0)&&(jV e.index&&gY e.read d)
 else if e.kind=1 then decide (0≤e.num∧e.num≤99)&&(jV e.index&&nG e.read)
 else decide (e.num=0)&&(jV e.index&&nG e.read)
def iI(k:Int):Int:=if k=1∨k=2∨k=3 then 0 else if k=4∨k=5∨k=6 then 2 else-1
theorem aEB(n:Nat)(k:Int):C7 n k=some (iI k):=by
 unfold C7 iI;by_cases h1:k=1
 ·subst h1;rfl
 by_cases h2:k=2
 ·subst h2;rfl
 by_cases h3:k=3
 ·subst h3;rfl
 by_cases h4:k=4
 ·subst h4;rfl
 by_cases h5:k=5
 ·subst h5;rfl
 by_cases h6:k=6
 ·subst h6;rfl
 simp [jn,h1,h2,h3,h4,h5,h6]
theorem aGr{n:Nat}(hn:5000≤n){e:Expr}(h1:SmA e.index)(h2:S9 e.read.subs)(d:Int):T5 n e d=some (gC e d):=by
 unfold T5 gC;rw [aDa,aEA,lW hn _ h1,tJ hn h1,yD hn h2];by_cases k2:e.kind=2
 ·rw [if_pos k2,decide_eq_true k2];simp only [jn,Option.bind,cond_true,cB];cases decide (e.num=0)<;>cases nG e.read<;>cases bX e.index<;>simp
 rw [if_neg k2,decide_eq_false k2];by_cases k3:e.kind=3
 ·rw [if_pos k3,decide_eq_true k3];simp only [jn,Option.bind,cond_true,cond_false];cases decide (e.num=0)<;>cases jV e.index<;>simp
 rw [if_neg k3,decide_eq_false k3];by_cases k1:e.kind=1
 ·rw [if_pos k1,decide_eq_true k1];simp only [jn,Option.bind,cond_true,cond_false];by_cases g1:0≤e.num<;>by_cases g2:e.num≤99<;>cases jV e.index<;>simp [g1,g2]
 rw [if_neg k1,decide_eq_false k1];simp only [jn,Option.bind,cond_false];cases decide (e.num=0)<;>cases jV e.index<;>simp
end Go.Lift
