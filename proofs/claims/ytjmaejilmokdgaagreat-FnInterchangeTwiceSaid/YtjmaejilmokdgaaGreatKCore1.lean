/- Plain facts on sums of products, on ranges, on the points of a nest. -/
import Derived.Test.YtjmaejilmokdgaaGreatKLawDraw
set_option maxRecDepth 100000
set_option linter.unusedVariables false
namespace Go.Lift
open Go
def dot:List Int→List Int→Int
 |c::cs,x::xs=>c*x+dot cs xs
 |_,_=>0
def w3(m:Int)(x:Int):Prop:= -m≤x∧x≤m
theorem aJr{a b c x:Int}(ha:0≤a)(hb:0≤b)(h1:w3 a c)(h2:w3 b x):w3 (a*b) (c*x):=by
 obtain⟨p1,p2⟩:=h1;obtain⟨q1,q2⟩:=h2;constructor
 ·have h:=vBp (show 0≤a+c by omega) (show 0≤b+x by omega);have k:=vBp (show 0≤a-c by omega) (show 0≤b-x by omega);have e1:(a+c)*(b+x)=a*b+a*x+c*b+c*x:=by rw [Int.add_mul,Int.mul_add,Int.mul_add];omega
  have e2:(a-c)*(b-x)=a*b-a*x-c*b+c*x:=by rw [Int.sub_mul,Int.mul_sub,Int.mul_sub];omega
  rw [e1] at h;rw [e2] at k;omega
 have h:=vBp (show 0≤a+c by omega) (show 0≤b-x by omega);have k:=vBp (show 0≤a-c by omega) (show 0≤b+x by omega);have e1:(a+c)*(b-x)=a*b-a*x+c*b-c*x:=by rw [Int.add_mul,Int.mul_sub,Int.mul_sub];omega
 have e2:(a-c)*(b+x)=a*b+a*x-c*b-c*x:=by rw [Int.sub_mul,Int.mul_add,Int.mul_add];omega
 rw [e1] at h;rw [e2] at k;omega
theorem aCM(cs:List Int):dot cs []=0:=by cases cs<;>rfl
theorem aEe: ∀{cs xs:List Int} {c x:Int},cs[xs.length]? =some c→dot cs (xs++[x])=dot cs xs+c*x
 | [],xs,c,x,h=>by simp at h
 |d::cs,[],c,x,h=>by simp at h;subst h;simp [dot,aCM]
 |d::cs,y::xs,c,x,h=>by
  have h:cs[xs.length]? =some c:=by simpa using h
  simp only [List.cons_append,dot];rw [aEe h];omega
theorem aEd{cs xs:List Int}{i:Nat}{c x:Int}(hc:cs[i]? =some c)(hx:xs[i]? =some x):dot cs (xs.take (i+1))=dot cs (xs.take i)+c*x:=by have hi:=(cS.1 hx).1;rw [yV,hx];exact aEe (by simpa [Nat.min_eq_left (Nat.le_of_lt hi)] using hc)
theorem aKt{M:Int}(hM:0≤M): ∀{cs xs:List Int},(∀c∈cs,w3 9 c)→(∀x∈xs,w3 M x)→w3 (9*M*xs.length) (dot cs xs)
 | [],xs,_,_=>by
  have:0≤9*M*(xs.length:Int):=vBp (by omega) (by omega);simp only [dot,w3];omega
 |d::cs,[],_,_=>by simp [dot,w3]
 |d::cs,y::xs,hc,hx=>by
  have h1:=aKt hM (cs:=cs) (xs:=xs) (fun c h=>hc c (by simp [h])) fun x h=>hx x (by simp [h]);have h2:=aJr (by omega) hM (hc d (by simp)) (hx y (by simp));have e:9*M*((y::xs).length:Int)=9*M*(xs.length:Int)+9*M:=by simp [Int.mul_add]
  rw [e];simp only [dot,w3] at*;omega
def lK(lo hi:Int):List Int:=(List.range (hi-lo).toNat).map (fun(i:Nat)=>lo+(i:Int))
theorem aLE{lo hi v:Int}:v∈lK lo hi↔lo≤v∧v<hi:=by
 simp only [lK,List.mem_map,List.mem_range];constructor
 ·rintro⟨i,hi,rfl⟩;omega
 intro h;exact⟨(v-lo).toNat,by omega,by omega⟩
theorem iQ{lo hi:Int}(h:hi≤lo):lK lo hi=[]:=by unfold lK;rw [show(hi-lo).toNat=0 by omega];rfl
theorem oL{lo hi:Int}(h:lo≤hi):lK lo (hi+1)=lK lo hi++[hi]:=by unfold lK;rw [show(hi+1-lo).toNat=(hi-lo).toNat+1 by omega,vBA,vAO];simp;omega
theorem vX{lo v hi:Int}(h1:lo≤v)(h2:v<hi):lK lo hi=lK lo v++v::lK (v+1) hi:=by
 obtain⟨k,hk⟩: ∃k:Nat,hi=v+1+k:=⟨(hi-v-1).toNat,by omega⟩
 subst hk;clear h2;induction k with
 |zero=>
  rw [show v+1+((0:Nat):Int)=v+1 by omega,oL h1,iQ (R4 _)]
 |succ k ih=>
  rw [show v+1+((k+1:Nat):Int)=v+1+(k:Int)+1 by omega,oL (by omega),ih,oL (by omega)];simp
theorem Q8{α:Type}{f:α→Option Bool}{p:α→Bool}{l:List α}(hf: ∀x∈l,f x=some (p x)){n:Nat}(hl:l.length<n)(hl2:l.length≤1000000):
  ∃r:Int,aM (fun again2 (x1:Int)=>bif decide (x1<(l.length:Int)) then(Option.bind (ix l x1) fun x3=>Option.bind (f x3) fun x4=>bif x4 then(some x1) else(again2 (wr (x1+1)))) else(some (-1))) n 0=some r∧decide (0≤r)=l.any p:=by
 suffices h:Ev (aM (fun again2 (x1:Int)=>bif decide (x1<(l.length:Int)) then(Option.bind (ix l x1) fun x3=>Option.bind (f x3) fun x4=>bif x4 then(some x1) else(again2 (wr (x1+1)))) else(some (-1))) n 0) (fun r=>decide (0≤r)=l.any p) by exact h
 refine Ev.loop (fun x:Int=>0≤x∧x≤l.length∧(l.take x.toNat).any p=false) (fun x:Int=>l.length-x.toNat) ?_ n 0 ⟨by omega,by omega,by simp⟩ (by simp;omega);rintro again x ⟨h0,h1,h2⟩ hr;refine aH (fun hlt=>?_) fun hge=>?_
 ·obtain⟨y,hy,hy2⟩:=jH h0 hlt;have hm:=cP hy2;refine aA hy (aA (hf y hm) (Ev.cond (fun ht=>Ev.some ?_) fun hfl=>?_))
  ·rw [show l.any p=true from vBm.2 ⟨y,hm,ht⟩];simp [h0]
  rw [aS (by omega)];refine hr _ ⟨by omega,by omega,?_⟩ (by omega);rw [show(x+1).toNat=x.toNat+1 by omega,yV,hy2];simp [h2,hfl]
 refine Ev.some ?_;have hx:x.toNat=l.length:=by omega
 rw [hx,qS] at h2;rw [h2];simp
theorem sZ{f:Int→Option Bool}{p:Int→Bool}{l:List Int}(hf: ∀x∈l,f x=some (p x)){n:Nat}(hl:l.length<n)(hl2:l.length≤1000000):b6 n l f=some (l.any p):=by obtain⟨r,h1,h2⟩:=Q8 hf hl hl2;unfold b6 gD;rw [h1,←h2];rfl
theorem jP{f:Affine→Option Bool}{p:Affine→Bool}{l:List Affine}(hf: ∀x∈l,f x=some (p x)){n:Nat}(hl:l.length<n)(hl2:l.length≤1000000):cC n l f=some (l.any p):=by obtain⟨r,h1,h2⟩:=Q8 hf hl hl2;unfold cC jT;rw [h1,←h2];rfl
theorem aAQ{f:Stmt→Option Bool}{p:Stmt→Bool}{l:List Stmt}(hf: ∀x∈l,f x=some (p x)){n:Nat}(hl:l.length<n)(hl2:l.length≤1000000):fL n l f=some (l.any p):=by obtain⟨r,h1,h2⟩:=Q8 hf hl hl2;unfold fL lO;rw [h1,←h2];rfl
theorem N7{f:Access→Option Bool}{p:Access→Bool}{l:List Access}(hf: ∀x∈l,f x=some (p x)){n:Nat}(hl:l.length<n)(hl2:l.length≤1000000):eQ n l f=some (l.any p):=by obtain⟨r,h1,h2⟩:=Q8 hf hl hl2;unfold eQ jU;rw [h1,←h2];rfl
theorem nN{α:Type}{l:List α}{p:Nat→α→Bool}{Q:Bool→Prop}{body:(Int→Option Bool)→Int→Option Bool}{n:Nat}(hl:l.length<n)(hl2:l.length≤1000000)
  (hstep: ∀again (i:Nat) x,l[i]? =some x→(p i x=true→Ev (again ((i:Int)+1)) Q)→(p i x=false→Q false)→Ev (body again (i:Int)) Q)
  (hend: ∀again,(∀(i:Nat) x,l[i]? =some x→p i x=true)→Ev (body again (l.length:Int)) Q) (hbad:(∃(i:Nat) (x:α),l[i]? =some x∧p i x=false)→Q false):Ev (aM body n 0) Q:=by
 refine Ev.loop (fun x:Int=> ∃i:Nat,x=i∧i≤l.length∧ ∀(j:Nat) y,j<i→l[j]? =some y→p j y=true) (fun x:Int=>l.length-x.toNat) ?_ n 0 ⟨0,rfl,by omega,fun j y h=>by omega⟩ (by simp;omega);rintro again x ⟨i,rfl,hi,ha⟩ hr;by_cases hlt:i<l.length
 ·have hx:=cO hlt;refine hstep again i _ hx (fun hp=>hr _ ⟨i+1,by omega,by omega,fun j y hj hy=>?_⟩ (by omega)) fun hp=>hbad ⟨i,_,hx,hp⟩;by_cases hji:j=i
  ·subst hji;rw [hx] at hy;cases hy;exact hp
  exact ha j y (by omega) hy
 have hil:i=l.length:=by omega
 subst hil;exact hend again fun j y hy=>ha j y (cS.1 hy).1 hy
def bX(a:Affine):Bool:=decide (a.coefs.length=4)&&(decide (-99≤a.const∧a.const≤99)&&a.coefs.all fun c=>decide (-9≤c∧c≤9))
theorem gR{a:Affine}(h:bX a=true):a.coefs.length=4∧w3 99 a.const∧ ∀c∈a.coefs,w3 9 c:=by simp only [bX,Bool.and_eq_true,decide_eq_true_eq,List.all_eq_true] at h;exact⟨h.1,h.2.1,h.2.2⟩
theorem eX(n:Nat)(x a b:Int):cQ n x a b=some (decide (a≤x∧x≤b)):=by unfold cQ;by_cases h1:a≤x<;>by_cases h2:x≤b<;>simp [jn,h1,h2]
theorem rG{n:Nat}(hn:5000≤n)(a:Affine)(ha:a.coefs.length≤1000):gN n a=some (bX a):=by
 have hf: ∀x∈a.coefs,gH n x=some (!decide (-9≤x∧x≤9)):=fun x _=>by unfold gH;rw [eX];rfl
 have hc:=sZ (n:=n) hf (by omega) (by omega);unfold gN I6;rw [eX];simp only [jn,Option.bind];rw [hc];unfold bX;have e:(a.coefs.any fun x=> !decide (-9≤x∧x≤9))= !(a.coefs.all fun c=>decide (-9≤c∧c≤9)):=by
  rw [vBd];simp
 rw [e];by_cases h1:a.coefs.length=4
 ·rw [decide_eq_true (show(a.coefs.length:Int)=4 by omega),decide_eq_true h1];generalize decide (-99≤a.const∧a.const≤99)=b;cases b<;>simp
 rw [decide_eq_false (show¬(a.coefs.length:Int)=4 by omega),decide_eq_false h1];rfl
theorem uA(n:Nat)(x m:Int)(hm:0≤m∧m≤1000000000):lH n x m=some (decide (-m≤x∧x≤m)):=by
 unfold lH;rw [aS (by omega)];by_cases h1: -m≤x<;>by_cases h2:x≤m
 ·simp [jn,h1,h2]
 ·simp [jn,h1,h2]
 ·simp [jn,h1,h2]
 simp [jn,h1,h2]
theorem lJ{n:Nat}(hn:5000≤n)(a:Affine)(ha:a.coefs.length≤1000):fH n a=some (bX a):=by
 refine Ev.eq ?_;unfold fH;refine nN (l:=a.coefs) (p:=fun _ c=>decide (-9≤c∧c≤9)) (by omega) (by omega) (fun again i x hx hgo hno=>?_) (fun again hall=>?_) (fun⟨i,x,hx,hp⟩=>?_)
 ·rw [decide_eq_true (show(i:Int)<(a.coefs.length:Int) by have:=(cS.1 hx).1;omega)];refine aA (aN hx) (aA (uA n x 9 (by omega)) ?_);have hi:=(cS.1 hx).1;cases hp:decide (-9≤x∧x≤9) with
  |true=>show Ev (again _) _;rw [aS (by omega)];exact hgo hp
  |false=>exact Ev.some (hno hp)
 ·rw [decide_eq_false (show¬(a.coefs.length:Int)<(a.coefs.length:Int) by omega)];have e:a.coefs.all (fun c=>decide (-9≤c∧c≤9))=true:=vAF.2 fun c hc=>by obtain⟨i,hi⟩:=vAJ hc;exact hall i c hi
  refine Ev.cond (fun h=>(by cases h)) fun _=>?_;unfold bX;rw [e];refine Ev.jn (fun z:Bool=>z=(decide (a.coefs.length=4)&&(decide (-99≤a.const∧a.const≤99)&&true))) (fun j hj=>?_) fun z hz=>Ev.some hz;refine aH (fun h=>aA (uA n a.const 99 (by omega)) (hj _ ?_)) fun h=>hj _ ?_
  ·rw [decide_eq_true (show a.coefs.length=4 by omega)];simp
  rw [decide_eq_false (show¬a.coefs.length=4 by omega)];rfl
 unfold bX;have e:a.coefs.all (fun c=>decide (-9≤c∧c≤9))=false:=vAK.2 ⟨x,cP hx,by rw [hp];simp⟩;rw [e];simp
def fS(a:Affine)(p:List Int):Int:=a.const+dot a.coefs p
def ptB(M:Int)(p:List Int):Prop:= ∀x∈p,w3 M x
theorem wH{a:Affine}(ha:bX a=true){p:List Int}(hp:p.length≤4){M:Int}(hM:0≤M∧M≤1000000000)(hB:ptB M p)(i:Nat)(hi:i≤p.length):w3 1000000000000 (a.const+dot a.coefs (p.take i)):=by
 obtain⟨h1,h2,h3⟩:=gR ha;have h4:=aKt (M:=M) hM.1 (cs:=a.coefs) (xs:=p.take i) h3 fun x hx=>hB x (vAD hx);have h5:(p.take i).length≤4:=by simp;omega
 have h6:9*M*((p.take i).length:Int)≤9*M*4:=Int.mul_le_mul_of_nonneg_left (by omega) (by omega);simp only [w3] at*;omega
theorem aH5{n:Nat}(hn:5000≤n){a:Affine}(ha:bX a=true){p:List Int}(hp:p.length≤4){M:Int}(hM:0≤M∧M≤1000000000)(hB:ptB M p):dI n a p=some (fS a p):=by
 obtain⟨h1,h2,h3⟩:=gR ha;refine Ev.eq ?_;unfold dI;refine Ev.loop (fun x:Int×Int=> ∃i:Nat,x.2=i∧i≤p.length∧x.1=a.const+dot a.coefs (p.take i)) (fun x=>p.length-x.2.toNat) ?_ n _ ⟨0,rfl,by omega,by simp [aCM]⟩ (by simp;omega);rintro again ⟨x,k⟩ ⟨i,hk,hi,hx⟩ hr;dsimp only at hk hx⊢;subst hk;refine aH (fun hlt=>?_) fun hge=>Ev.some ?_
 ·have hlt:i<p.length:=by omega
  have hp2:=cO hlt;have hc2:=cO (show i<a.coefs.length by omega);have hd:=aEd hc2 hp2;have e1:=wH ha hp hM hB i hi;have e2:=wH ha hp hM hB (i+1) (by omega);rw [hd] at e2;have e3:=aJr (by omega) hM.1 (h3 _ (cP hc2)) (hB _ (cP hp2));refine aA (aN hp2) (aA (aN hc2) ?_);simp only [w3] at e1 e2 e3;rw [aS (n:=a.coefs[i]*p[i]) (by omega),aS (by omega),aS (by omega)];refine hr _ ⟨i+1,by dsimp only;omega,by omega,?_⟩ (by dsimp only;omega);dsimp only;rw [hd,hx];omega
 have:i=p.length:=by omega
 rw [hx,this,qS];rfl
theorem aHJ{n:Nat}(hn:5000≤n){a:Affine}(ha:bX a=true){p:List Int}(hp:p.length≤4){M:Int}(hM:0≤M∧M≤1000000000)(hB:ptB M p):jE n a p=some (fS a p):=by
 obtain⟨h1,h2,h3⟩:=gR ha;refine Ev.eq ?_;unfold jE;refine Ev.loop (fun x:Int×Int=> ∃i:Nat,x.2=i∧i≤p.length∧x.1=a.const+dot a.coefs (p.take i)) (fun x=>p.length-x.2.toNat) ?_ n _ ⟨0,rfl,by omega,by simp [aCM]⟩ (by simp;omega);rintro again ⟨x,k⟩ ⟨i,hk,hi,hx⟩ hr;dsimp only at hk hx⊢;subst hk;refine Ev.jn (fun z=>z=decide (i<p.length)) (fun j hj=>aH (fun h=>hj _ ?_) fun h=>hj _ ?_) fun z hz=>?_
 ·rw [decide_eq_true (show i<p.length by omega),decide_eq_true (show(i:Int)<(a.coefs.length:Int) by omega)]
 ·rw [decide_eq_false (show¬i<p.length by omega)]
 subst hz;refine aH (fun hlt=>?_) fun hge=>Ev.some ?_
 ·have hp2:=cO hlt;have hc2:=cO (show i<a.coefs.length by omega);have hd:=aEd hc2 hp2;have e1:=wH ha hp hM hB i hi;have e2:=wH ha hp hM hB (i+1) (by omega);rw [hd] at e2;have e3:=aJr (by omega) hM.1 (h3 _ (cP hc2)) (hB _ (cP hp2));refine aA (aN hc2) (aA (aN hp2) ?_);simp only [w3] at e1 e2 e3;rw [aS (n:=a.coefs[i]*p[i]) (by omega),aS (by omega),aS (by omega)];refine hr _ ⟨i+1,by dsimp only;omega,by omega,?_⟩ (by dsimp only;omega);dsimp only;rw [hd,hx];omega
 have:i=p.length:=by omega
 rw [hx,this,qS];rfl
theorem cD{R:Type}{Q:R→Prop}{A B:Option R}(h:Ev A Q):Ev (bif true then A else B) Q:=h
theorem cE{R:Type}{Q:R→Prop}{A B:Option R}(h:Ev B Q):Ev (bif false then A else B) Q:=h
def iF:List Int→Nat
 | []=>0
 |c::cs=>if iF cs=0 then(if c=0 then 0 else 1) else iF cs+1
theorem L7: ∀(l:List Int) (c:Int),iF (l++[c])=if c=0 then iF l else l.length+1
 | [],c=>by simp [iF]
 |d::l,c=>by
  have ih:=L7 l c;simp only [List.cons_append,iF,ih];by_cases hc:c=0
  ·simp [hc]
  simp [hc]
theorem L6{l:List Int}{i:Nat}{c:Int}(h:l[i]? =some c):iF (l.take (i+1))=if c=0 then iF (l.take i) else i+1:=by have hi:=(cS.1 h).1;rw [yV,h];show iF (l.take i++[c])=_;rw [L7,qC,Nat.min_eq_left (Nat.le_of_lt hi)]
def SmA(a:Affine):Prop:=a.coefs.length≤1000
def O5(l:List Affine):Prop:=l.length≤1000∧ ∀a∈l,SmA a
theorem xH{n:Nat}(hn:5000≤n){a:Affine}(ha:SmA a):nT n a=some (iF a.coefs:Int):=by
 have ha:a.coefs.length≤1000:=ha;refine Ev.eq ?_;unfold nT;refine Ev.loop (fun x:Int×Int=> ∃i:Nat,x.2=i∧i≤a.coefs.length∧x.1=(iF (a.coefs.take i):Int)) (fun x=>a.coefs.length-x.2.toNat) ?_ n _ ⟨0,rfl,by omega,by simp [iF]⟩ (by simp;omega);rintro again ⟨x,k⟩ ⟨i,hk,hi,hx⟩ hr;dsimp only at hk hx⊢;subst hk;refine aH (fun hlt=>?_) fun hge=>Ev.some ?_
 ·have hlt:i<a.coefs.length:=by omega
  have hc:=cO hlt;have hd:=L6 hc;refine Ev.jn (fun z:Int=>z=(iF (a.coefs.take (i+1)):Int)) (fun j hj=>aA (aN hc) (dQ (fun h0=>hj _ ?_) fun h0=>hj _ ?_)) fun z hz=>?_
  ·rw [hd,if_neg h0,aS (by omega)];omega
  ·rw [hd,if_pos h0,hx]
  rw [aS (by omega)];exact hr _ ⟨i+1,by dsimp only;omega,by omega,hz⟩ (by dsimp only;omega)
 have:i=a.coefs.length:=by omega
 rw [hx,this,qS]
theorem W7{n:Nat}(hn:5000≤n){a:Affine}(ha:SmA a):fR n a=some (iF a.coefs:Int):=by
 have ha:a.coefs.length≤1000:=ha;refine Ev.eq ?_;unfold fR;refine Ev.loop (fun x:Int=> ∃i:Nat,x=i∧i≤a.coefs.length∧iF a.coefs=iF (a.coefs.take i)) (fun x=>x.toNat) ?_ n _ ⟨a.coefs.length,rfl,by omega,by rw [qS]⟩ (by simp;omega);rintro again x ⟨i,rfl,hi,hx⟩ hr;cases i with
 |zero=>
  refine Ev.jn (fun z=>z=false) (fun j hj=>aH (fun h=>absurd h (by decide)) fun h=>hj _ rfl) fun z hz=>?_;subst hz;exact Ev.some (by rw [hx];rfl)
 |succ i=>
  have hlt:i<a.coefs.length:=by omega
  have hc:=cO hlt;have hd:=L6 hc;have e:wr (((i+1:Nat):Int)-1)=(i:Int):=by rw [aS (by omega)];omega
  rw [e];refine Ev.jn (fun z=>z=decide (a.coefs[i]=0)) (fun j hj=>aH (fun h=>aA (aN hc) (hj _ rfl)) fun h=>absurd (show(0:Int)<((i+1:Nat):Int) by omega) h) fun z hz=>?_;subst hz;refine aH (fun h0=>?_) fun h0=>Ev.some ?_
  ·exact hr _ ⟨i,rfl,by omega,by rw [hx,hd,if_pos h0]⟩ (by omega)
  rw [hx,hd,if_neg h0]
def bZ(a:Affine)(d:Int):Bool:=bX a&&decide ((iF a.coefs:Int)≤d)
def cV(l:List Affine)(d:Int):Bool:=l.all (fun a=>bZ a d)&&decide (1≤l.length∧l.length≤2)
theorem ltd(a b:Int):decide (a<b)= !decide (b≤a):=by
 by_cases h:a<b
 ·rw [decide_eq_true h,decide_eq_false (by omega)];rfl
 rw [decide_eq_false h,decide_eq_true (by omega)];rfl
theorem K8{n:Nat}(hn:5000≤n){l:List Affine}(hl:O5 l)(d:Int):uG n l d=some (cV l d):=by
 obtain⟨h0,h1⟩:=hl;refine Ev.eq ?_;unfold uG;refine nN (l:=l) (p:=fun _ a=>bZ a d) (by omega) (by omega) (fun again i x hx hgo hno=>?_) (fun again hall=>?_) (fun⟨i,x,hx,hp⟩=>?_)
 ·have hi:=(cS.1 hx).1;have hm:=h1 x (cP hx);rw [decide_eq_true (show(i:Int)<(l.length:Int) by omega)];refine cD (Ev.jn (fun z=>z= !bZ x d) (fun j hj=>aA (aN hx) (aA (lJ hn x hm) ?_)) fun z hz=>?_)
  ·cases ha:bX x with
   |false=>exact hj _ (by unfold bZ;rw [ha];rfl)
   |true=>exact aA (xH hn hm) (hj _ (by unfold bZ;rw [ha,ltd];simp))
  subst hz;cases hb:bZ x d with
  |true=>show Ev (again _) _;rw [aS (by omega)];exact hgo hb
  |false=>exact Ev.some (hno hb)
 ·rw [decide_eq_false (show¬(l.length:Int)<(l.length:Int) by omega)];have e:l.all (fun a=>bZ a d)=true:=vAF.2 fun c hc=>by obtain⟨i,hi⟩:=vAJ hc;exact hall i c hi
  unfold cV;rw [e];refine cE (Ev.jn (fun z=>z=decide (1≤l.length∧l.length≤2)) (fun j hj=>aH (fun h=>hj _ ?_) fun h=>hj _ ?_) fun z hz=>Ev.some (by rw [hz];rfl))
  ·by_cases h2:l.length≤2
   ·rw [decide_eq_true (show(l.length:Int)≤2 by omega),decide_eq_true (by omega)]
   rw [decide_eq_false (show¬(l.length:Int)≤2 by omega),decide_eq_false (by omega)]
  rw [decide_eq_false (by omega)]
 unfold cV;rw [vAK.2 ⟨x,cP hx,by rw [hp];simp⟩];rfl
theorem W8{n:Nat}(hn:5000≤n){a:Affine}(ha:SmA a)(d:Int):iS n a d=some (!bZ a d):=by
 unfold iS;rw [rG hn a ha];simp only [jn,Option.bind];cases hb:bX a with
 |false=>simp [bZ,hb]
 |true=>
  rw [W7 hn ha];simp only [bZ,hb,Bool.not_true,cond_false,Bool.true_and];rw [ltd]
theorem sO(n k:Nat):cQ n (k:Int) 1 2=some (decide (1≤k∧k≤2)):=by
 rw [eX];congr 1;by_cases h:1≤k∧k≤2
 ·rw [decide_eq_true h,decide_eq_true (by omega)]
 rw [decide_eq_false h,decide_eq_false (by omega)]
theorem w4{n:Nat}(hn:5000≤n){l:List Affine}(hl:O5 l)(d:Int):oW n l d=some (cV l d):=by
 obtain⟨h0,h1⟩:=hl;unfold oW;rw [sO];have hc:=jP (n:=n) (f:=fun q0=>iS n q0 d) (p:=fun a=> !bZ a d) (l:=l) (fun x hx=>W8 hn (h1 x hx) d) (by omega) (by omega);simp only [jn,Option.bind];rw [hc];unfold cV;have e:(l.any fun a=> !bZ a d)= !(l.all fun a=>bZ a d):=by
  rw [vBd];simp
 rw [e];cases decide (1≤l.length∧l.length≤2)<;>simp
def W6{α:Type}(p:Nat→α→Bool)(l:List α):Bool:=l.zipIdx.all fun q=>p q.2 q.1
theorem pP{α:Type}{p:Nat→α→Bool}{l:List α}(h: ∀(i:Nat) x,l[i]? =some x→p i x=true):W6 p l=true:=
 vAF.2 fun q hq=>h q.2 q.1 (vBo.1 hq)
theorem nD{α:Type}{p:Nat→α→Bool}{l:List α}{i:Nat}{x:α}(h:l[i]? =some x)(hp:p i x=false):W6 p l=false:=
 vAK.2 ⟨(x,i),vBo.2 h,by rw [hp];simp⟩
theorem W5{α:Type}{p:Nat→α→Bool}{l:List α}(h:W6 p l=true){i:Nat}{x:α}(hx:l[i]? =some x):p i x=true:=
 vAF.1 h (x,i) (vBo.2 hx)
def kM(nest:List Loop):Bool:=W6 (fun i l=>cV l.lo (i:Int)&&cV l.hi (i:Int)) nest&&decide (nest.length≤4)
def SmN(nest:List Loop):Prop:=nest.length≤1000∧ ∀l∈nest,O5 l.lo∧O5 l.hi
theorem X0{n:Nat}(hn:5000≤n){nest:List Loop}(h:SmN nest):pR n nest=some (kM nest):=by
 obtain⟨h0,h1⟩:=h;refine Ev.eq ?_;unfold pR;refine nN (l:=nest) (p:=fun i l=>cV l.lo (i:Int)&&cV l.hi (i:Int)) (by omega) (by omega) (fun again i x hx hgo hno=>?_) (fun again hall=>?_) (fun⟨i,x,hx,hp⟩=>?_)
 ·have hi:=(cS.1 hx).1;obtain⟨m1,m2⟩:=h1 x (cP hx);rw [decide_eq_true (show(i:Int)<(nest.length:Int) by omega)];refine aA (aN hx) (Ev.jn (fun z=>z= !(cV x.lo (i:Int)&&cV x.hi (i:Int))) (fun j hj=>aA (w4 hn m1 _) ?_) fun z hz=>?_)
  ·cases ha:cV x.lo (i:Int) with
   |false=>exact hj _ (by rw [ha];rfl)
   |true=>exact aA (w4 hn m2 _) (hj _ (by rw [ha];rfl))
  subst hz;cases hb:(cV x.lo (i:Int)&&cV x.hi (i:Int)) with
  |true=>show Ev (again _) _;rw [aS (by omega)];exact hgo hb
  |false=>exact Ev.some (hno hb)
 ·rw [decide_eq_false (show¬(nest.length:Int)<(nest.length:Int) by omega)];refine Ev.some ?_;unfold kM;rw [pP hall,vBc];exact decide_eq_decide.2 (by omega)
 unfold kM;rw [nD hx hp];rfl
theorem S9{n:Nat}(hn:5000≤n){nest:List Loop}(h:SmN nest):pM n nest=some (kM nest):=by
 obtain⟨h0,h1⟩:=h;unfold pM;by_cases h4:nest.length≤4
 ·rw [decide_eq_true (show(nest.length:Int)≤4 by omega)];refine Ev.eq ?_;refine nN (l:=nest) (p:=fun i l=>cV l.lo (i:Int)&&cV l.hi (i:Int)) (by omega) (by omega) (fun again i x hx hgo hno=>?_) (fun again hall=>?_) (fun⟨i,x,hx,hp⟩=>?_)
  ·have hi:=(cS.1 hx).1;obtain⟨m1,m2⟩:=h1 x (cP hx);rw [decide_eq_true (show(i:Int)<(nest.length:Int) by omega)];refine Ev.jn (fun z=>z=true) (fun j hj=>cD (hj _ rfl)) fun z hz=>?_;subst hz;refine cD (Ev.jn (fun z=>z= !(cV x.lo (i:Int)&&cV x.hi (i:Int))) (fun j hj=>aA (aN hx) (aA (K8 hn m1 _) ?_)) fun z hz=>?_)
   ·cases ha:cV x.lo (i:Int) with
    |false=>exact hj _ (by rw [ha];rfl)
    |true=>exact aA (K8 hn m2 _) (hj _ (by rw [ha];rfl))
   subst hz;cases hb:(cV x.lo (i:Int)&&cV x.hi (i:Int)) with
   |true=>show Ev (again _) _;rw [aS (by omega)];exact hgo hb
   |false=>exact Ev.some (hno hb)
  ·rw [decide_eq_false (show¬(nest.length:Int)<(nest.length:Int) by omega)];refine Ev.jn (fun z=>z=false) (fun j hj=>cE (hj _ rfl)) fun z hz=>?_;subst hz;refine Ev.some ?_;unfold kM;rw [pP hall,decide_eq_true h4];rfl
  unfold kM;rw [nD hx hp];rfl
 obtain⟨k,rfl⟩: ∃k,n=k+1:=⟨n-1,by omega⟩
 rw [decide_eq_false (show¬(nest.length:Int)≤4 by omega)];unfold kM;rw [decide_eq_false h4,vBq];simp only [aM,jn];cases decide ((0:Int)<(nest.length:Int))<;>rfl
def mx:List Int→Int
 | []=>0
 |x::xs=>xs.foldl max x
def mn:List Int→Int
 | []=>0
 |x::xs=>xs.foldl min x
theorem aLN{l:List Int}(h:l≠[])(x:Int):mx (l++[x])=max (mx l) x:=by
 cases l with
 |nil=>exact absurd rfl h
 |cons a l=>simp [mx,List.foldl_append]
theorem aLP{l:List Int}(h:l≠[])(x:Int):mn (l++[x])=min (mn l) x:=by
 cases l with
 |nil=>exact absurd rfl h
 |cons a l=>simp [mn,List.foldl_append]
theorem aMx: ∀(l:List Int) (a:Int),a≤l.foldl max a
 | [],a=>R4 _
 |x::l,a=>Int.le_trans (Int.le_max_left a x) (aMx l (max a x))
theorem aMy: ∀(l:List Int) (a:Int),l.foldl min a≤a
 | [],a=>R4 _
 |x::l,a=>Int.le_trans (aMy l (min a x)) (Int.min_le_left a x)
def evs(l:List Affine)(p:List Int):List Int:=l.map fun a=>fS a p
def lN(l:Loop)(p:List Int):Int:=mx (evs l.lo p)
def sB(l:Loop)(p:List Int):Int:=mn (evs l.hi p)
def qQ(k:Nat)(p:List Int):Prop:=p.length=k∧k≤4∧ptB (100*40^k) p
theorem T6{k:Nat}(h:k≤4):(0:Int)≤100*40^k∧(100:Int)*40^k≤1000000000:=by
 match k,h with
 |0,_=>decide
 |1,_=>decide
 |2,_=>decide
 |3,_=>decide
 |4,_=>decide
theorem t8{l:List Affine}{d:Int}(h:cV l d=true):1≤l.length∧l.length≤2∧ ∀a∈l,bX a=true:=by
 simp only [cV,Bool.and_eq_true,decide_eq_true_eq,List.all_eq_true] at h;refine⟨h.2.1,h.2.2,fun a ha=>?_⟩
 have:=h.1 a ha;simp only [bZ,Bool.and_eq_true] at this;exact this.1
theorem aJV{a:Affine}(ha:bX a=true){k:Nat}{p:List Int}(hp:qQ k p)(hk:k≤3): -(40*(100*40^k))≤fS a p∧fS a p≤40*(100*40^k):=by
 obtain⟨h1,h2,h3⟩:=gR ha;obtain⟨p1,p2,p3⟩:=hp;obtain⟨q1,q2⟩:=T6 (k:=k) (by omega);have hq:(100:Int)≤100*40^k:=by
  match k,hk with
  |0,_=>decide
  |1,_=>decide
  |2,_=>decide
  |3,_=>decide
 generalize (100*40^k:Int)=M at*;have h4:=aKt (M:=M) q1 (cs:=a.coefs) (xs:=p) h3 fun x hx=>p3 x hx;have h6:9*M*(p.length:Int)≤9*M*3:=Int.mul_le_mul_of_nonneg_left (by omega) (by omega);simp only [w3] at*;unfold fS;omega
theorem aJb{n:Nat}(hn:5000≤n){a:Affine}(ha:bX a=true){k:Nat}{p:List Int}(hp:qQ k p):jE n a p=some (fS a p):=
 aHJ hn ha (by have:=hp.1;have:=hp.2.1;omega) (T6 hp.2.1) hp.2.2
theorem aJM{n:Nat}(hn:5000≤n){a:Affine}(ha:bX a=true){k:Nat}{p:List Int}(hp:qQ k p):dI n a p=some (fS a p):=
 aH5 hn ha (by have:=hp.1;have:=hp.2.1;omega) (T6 hp.2.1) hp.2.2
theorem mE{l:List Affine}{p:List Int}{i:Nat}{a:Affine}(h:l[i]? =some a):(evs l p)[i]? =some (fS a p):=by unfold evs;rw [List.getElem?_map,h];rfl
theorem Q4(l:List Affine)(p:List Int):(evs l p).length=l.length:=qB ..
theorem aGQ{α:Type}{l:List α}{i:Nat}(h:1≤i)(hl:1≤l.length):l.take i≠[]:=by
 intro e
 have:(l.take i).length=0:=by rw [e];rfl
 rw [qC] at this;omega
theorem aG1{l:List Int}{i:Nat}{x:Int}(h:l[i]? =some x)(hi:1≤i):mx (l.take (i+1))=max (mx (l.take i)) x:=by have:=(cS.1 h).1;rw [yV,h];exact aLN (aGQ hi (by omega)) x
theorem aG3{l:List Int}{i:Nat}{x:Int}(h:l[i]? =some x)(hi:1≤i):mn (l.take (i+1))=min (mn (l.take i)) x:=by have:=(cS.1 h).1;rw [yV,h];exact aLP (aGQ hi (by omega)) x
theorem aFz{l:List Int}{x:Int}(h:l[0]? =some x):mx (l.take 1)=x:=by
 cases l with
 |nil=>simp at h
 |cons a l=>simp at h;subst h;rfl
theorem aFA{l:List Int}{x:Int}(h:l[0]? =some x):mn (l.take 1)=x:=by
 cases l with
 |nil=>simp at h
 |cons a l=>simp at h;subst h;rfl
theorem S5{n:Nat}(hn:5000≤n){l:Loop}{d d':Int}(h1:cV l.lo d=true)(h2:cV l.hi d'=true){k:Nat}{p:List Int}(hp:qQ k p):q6 n l p=some (lN l p,sB l p):=by
 obtain⟨a1,a2,a3⟩:=t8 h1;obtain⟨b1,b2,b3⟩:=t8 h2;have g1:=cO (show 0<l.lo.length by omega);have g2:=cO (show 0<l.hi.length by omega);refine Ev.eq ?_;unfold q6;refine aA (aN (i:=0) g1) (aA (aJb hn (a3 _ (cP g1)) hp) (aA (aN (i:=0) g2) (aA (aJb hn (b3 _ (cP g2)) hp) ?_)));refine Ev.loop (fun x:Int×Int=> ∃i:Nat,x.2=i∧1≤i∧i≤l.lo.length∧x.1=mx ((evs l.lo p).take i)) (fun x=>l.lo.length-x.2.toNat) ?_ n _ ⟨1,rfl,by omega,by omega,(aFz (mE g1)).symm⟩ (by dsimp only;omega);rintro again ⟨x,z⟩ ⟨i,hz,hi1,hi,hx⟩ hr;dsimp only at hz hx⊢;subst hz;refine aH (fun hlt=>?_) fun hge=>?_
 ·have g:=cO (show i<l.lo.length by omega);have e:=aG1 (mE (p:=p) g) hi1;refine Ev.jn (fun z=>z=mx ((evs l.lo p).take (i+1))) (fun j hj=>aA (aN g) (aA (aJb hn (a3 _ (cP g)) hp) (aH (fun h=>hj _ ?_) fun h=>hj _ ?_))) fun z hz=>?_
  ·rw [e,←hx];omega
  ·rw [e,←hx];omega
  rw [aS (by omega)];exact hr _ ⟨i+1,by dsimp only;omega,by omega,by omega,hz⟩ (by dsimp only;omega)
 have hie:i=l.lo.length:=by omega
 have hx':x=lN l p:=by rw [hx,hie,←Q4 l.lo p,qS];rfl
 refine Ev.loop (fun x:Int×Int=> ∃i:Nat,x.2=i∧1≤i∧i≤l.hi.length∧x.1=mn ((evs l.hi p).take i)) (fun x=>l.hi.length-x.2.toNat) ?_ n _ ⟨1,rfl,by omega,by omega,(aFA (mE g2)).symm⟩ (by dsimp only;omega);rintro again2 ⟨y,z⟩ ⟨i,hz,hi1,hi,hy⟩ hr2;dsimp only at hz hy⊢;subst hz;refine aH (fun hlt=>?_) fun hge=>Ev.some ?_
 ·have g:=cO (show i<l.hi.length by omega);have e:=aG3 (mE (p:=p) g) hi1;refine Ev.jn (fun z=>z=mn ((evs l.hi p).take (i+1))) (fun j hj=>aA (aN g) (aA (aJb hn (b3 _ (cP g)) hp) (aH (fun h=>hj _ ?_) fun h=>hj _ ?_))) fun z hz=>?_
  ·rw [e,←hy];omega
  ·rw [e,←hy];omega
  rw [aS (by omega)];exact hr2 _ ⟨i+1,by dsimp only;omega,by omega,by omega,hz⟩ (by dsimp only;omega)
 have hie:i=l.hi.length:=by omega
 rw [hx',hy,hie,←Q4 l.hi p,qS];rfl
theorem aH3{n:Nat}(hn:5000≤n){l:Loop}{d d':Int}(h1:cV l.lo d=true)(h2:cV l.hi d'=true){k:Nat}{p:List Int}(hp:qQ k p):pT n l p=some (lN l p,sB l p):=by
 obtain⟨a1,a2,a3⟩:=t8 h1;obtain⟨b1,b2,b3⟩:=t8 h2;have g1:=cO (show 0<l.lo.length by omega);have g2:=cO (show 0<l.hi.length by omega);refine Ev.eq ?_;unfold pT;refine aA (aN (i:=0) g1) (aA (aJM hn (a3 _ (cP g1)) hp) (aA (aN (i:=0) g2) (aA (aJM hn (b3 _ (cP g2)) hp) ?_)));refine Ev.loop (fun x:Int×Int=> ∃i:Nat,x.2=i∧i≤l.lo.length∧x.1=mx ((evs l.lo p).take (max i 1))) (fun x=>l.lo.length-x.2.toNat) ?_ n _ ⟨0,rfl,by omega,(aFz (mE g1)).symm⟩ (by dsimp only;omega);rintro again ⟨x,z⟩ ⟨i,hz,hi,hx⟩ hr;dsimp only at hz hx⊢;subst hz;refine aH (fun hlt=>?_) fun hge=>?_
 ·have g:=cO (show i<l.lo.length by omega);refine aA (aN g) (aA (aJM hn (a3 _ (cP g)) hp) ?_);rw [aS (by omega)];refine hr _ ⟨i+1,by dsimp only;omega,by omega,?_⟩ (by dsimp only;omega);dsimp only;rw [show max (i+1) 1=i+1 by omega];cases i with
  |zero=>rw [hx,show max 0 1=1 by rfl,mR,aFz (mE g)];omega
  |succ i=>rw [aG1 (mE (p:=p) g) (by omega),hx,show max (i+1) 1=i+1 by omega]
 have hie:i=l.lo.length:=by omega
 have hx':x=lN l p:=by rw [hx,hie,Nat.max_eq_left (by omega),←Q4 l.lo p,qS];rfl
 refine Ev.loop (fun x:Int×Int=> ∃i:Nat,x.2=i∧i≤l.hi.length∧x.1=mn ((evs l.hi p).take (max i 1))) (fun x=>l.hi.length-x.2.toNat) ?_ n _ ⟨0,rfl,by omega,(aFA (mE g2)).symm⟩ (by dsimp only;omega);rintro again2 ⟨y,z⟩ ⟨i,hz,hi,hy⟩ hr2;dsimp only at hz hy⊢;subst hz;refine aH (fun hlt=>?_) fun hge=>Ev.some ?_
 ·have g:=cO (show i<l.hi.length by omega);refine aA (aN g) (aA (aJM hn (b3 _ (cP g)) hp) ?_);rw [aS (by omega)];refine hr2 _ ⟨i+1,by dsimp only;omega,by omega,?_⟩ (by dsimp only;omega);dsimp only;rw [show max (i+1) 1=i+1 by omega];cases i with
  |zero=>rw [hy,show max 0 1=1 by rfl,mR,aFA (mE g)];omega
  |succ i=>rw [aG3 (mE (p:=p) g) (by omega),hy,show max (i+1) 1=i+1 by omega]
 have hie:i=l.hi.length:=by omega
 rw [hx',hy,hie,Nat.max_eq_left (by omega),←Q4 l.hi p,qS];rfl
theorem P6{l:Loop}{d d':Int}(h1:cV l.lo d=true)(h2:cV l.hi d'=true){k:Nat}{p:List Int}(hp:qQ k p)(hk:k≤3){v:Int}(hv:lN l p≤v∧v<sB l p):qQ (k+1) (p++[v]):=by
 obtain⟨a1,a2,a3⟩:=t8 h1;obtain⟨b1,b2,b3⟩:=t8 h2;have e1: -(40*(100*40^k))≤lN l p:=by
  cases hl:l.lo with
  |nil=>rw [hl] at a1;simp at a1
  |cons a as=>
   have:=(aJV (a3 a (by rw [hl];simp)) hp hk).1;unfold lN evs;rw [hl];exact Int.le_trans this (aMx _ _)
 have e2:sB l p≤40*(100*40^k):=by
  cases hl:l.hi with
  |nil=>rw [hl] at b1;simp at b1
  |cons a as=>
   have:=(aJV (b3 a (by rw [hl];simp)) hp hk).2;unfold sB evs;rw [hl];exact Int.le_trans (aMy _ _) this
 obtain⟨p1,p2,p3⟩:=hp;have e3:(100*40^(k+1):Int)=40*(100*40^k):=by rw [Int.pow_succ];omega
 have q:=(T6 (k:=k) (by omega)).1;refine⟨by simp [p1],by omega,fun x hx=>?_⟩;rw [e3];rcases wO.1 hx with h|h
 ·have:=p3 x h;simp only [w3] at this⊢;omega
 simp at h;subst h;simp only [w3];omega
def pts:List Loop→List Int→List (List Int)
 | [],p=>[p]
 |l::ls,p=>(lK (lN l p) (sB l p)).flatMap fun v=>pts ls (p++[v])
def wk:List Loop→List Int→Int
 | [],_=>1
 |l::ls,p=>1+((lK (lN l p) (sB l p)).map fun v=>wk ls (p++[v])).sum
theorem qE{α:Type}(f:α→Int): ∀(l:List α),(∀x∈l,1≤f x)→(l.length:Int)≤(l.map f).sum
 | [],_=>by simp
 |x::l,h=>by have h1:=qE f l fun y hy=>h y (by simp [hy]);have h2:=h x (by simp);simp only [List.map_cons,List.sum_cons,List.length_cons];omega
theorem aB2: ∀(ls:List Loop) (p:List Int),1≤wk ls p
 | [],p=>R4 _
 |l::ls,p=>by have:=qE (fun v=>wk ls (p++[v])) (lK (lN l p) (sB l p)) fun v _=>aB2 ls _;simp only [wk];omega
def Fit(nest:List Loop):Prop:=nest.length≤4∧ ∀(i:Nat) l,nest[i]? =some l→cV l.lo (i:Int)=true∧cV l.hi (i:Int)=true
theorem aCB{nest:List Loop}(h:kM nest=true):Fit nest:=by
 simp only [kM,Bool.and_eq_true,decide_eq_true_eq] at h;refine⟨h.2,fun i l hl=>?_⟩
 have:=W5 h.1 hl;simpa [Bool.and_eq_true] using this
theorem wI{nest:List Loop}{k:Nat}{l:Loop}{ls:List Loop}(h:nest.drop k=l::ls):nest[k]? =some l∧nest.drop (k+1)=ls∧k<nest.length:=by
 have h1:(nest.drop k)[0]? =some l:=by rw [h];rfl
 rw [vAE,vBs] at h1;refine⟨h1,?_,(cS.1 h1).1⟩
 have:(nest.drop k).drop 1=ls:=by rw [h];rfl
 rwa [List.drop_drop] at this
theorem D0{nest:List Loop}{k:Nat}(h:nest.drop k=[])(hk:k≤nest.length):k=nest.length:=by
 have:(nest.drop k).length=0:=by rw [h];rfl
 rw [vAT] at this;omega
theorem eD(p:List Int)(h:p.length≤1000):app [] p=some p:=by rw [bT (by simp;omega)];rfl
theorem aDw(l:List Int)(f:Int→Int)(v:Int):((l++[v]).map f).sum=(l.map f).sum+f v:=by simp
theorem aLF{lo v:Int}(h:lo≤v):((lK lo v).length:Int)=v-lo:=by unfold lK;simp;omega
theorem aA9{nest:List Loop}(hf:Fit nest): ∀(ls:List Loop) (n k:Nat) (p:List Int) (most:Int),5000+ls.length≤n→nest.drop k=ls→k≤nest.length→qQ k p→0≤most→most≤1200→
  Ev (s_l2Work n nest p most) (fun r=>(wk ls p≤most→r=wk ls p)∧(most<wk ls p→most<r)∧1≤r∧r≤most+1)
 | [],n,k,p,most,hn,hd,hk,hp,h0,h1=>by
  obtain⟨n,rfl⟩: ∃j,n=j+1:=⟨n-1,by omega⟩
  have hk':=D0 hd hk;have hpl:=hp.1;unfold s_l2Work;rw [decide_eq_true (show(p.length:Int)=(nest.length:Int) by omega)];exact Ev.some ⟨fun _=>rfl,fun h=>by simp only [wk] at h;omega,by omega,by omega⟩
 |l::ls,n,k,p,most,hn,hd,hk,hp,h0,h1=>by
  obtain⟨n,rfl⟩: ∃j,n=j+1:=⟨n-1,by omega⟩
  obtain⟨d1,d2,d3⟩:=wI hd;obtain⟨s1,s2⟩:=hf.2 k l d1;have hpl:=hp.1;have hk3:k≤3:=by have:=hf.1;omega
  simp only [List.length_cons] at hn;unfold s_l2Work;rw [decide_eq_false (show¬(p.length:Int)=(nest.length:Int) by omega)];refine cE (aA (x:=l) (by rw [hpl];exact aN d1) (aA (S5 (by omega) s1 s2 hp) ?_));let f:Int→Int:=fun v=>wk ls (p++[v]);have hfp: ∀v,1≤f v:=fun v=>aB2 _ _;have hW:wk (l::ls) p=1+((lK (lN l p) (sB l p)).map f).sum:=rfl;refine Ev.loop (fun x:Int×Int=>lN l p≤x.2∧(x.2≤sB l p∨x.2=lN l p)∧(1+((lK (lN l p) x.2).map f).sum≤most→x.1=1+((lK (lN l p) x.2).map f).sum)∧(most<1+((lK (lN l p) x.2).map f).sum→most<x.1)∧1≤x.1∧x.1≤most+1)
   (fun x=>(most+1-x.1).toNat) ?_ n _ ⟨R4 _,.inr rfl,fun _=>by rw [iQ (R4 _)];rfl,fun h=>by rw [iQ (R4 _)] at h;simp at h;dsimp only;omega,by dsimp only;omega,by dsimp only;omega⟩ (by dsimp only;omega)
  rintro again ⟨x,v⟩ ⟨i1,i2,i3,i4,i5,i6⟩ hr;dsimp only at i1 i2 i3 i4 i5 i6⊢;refine Ev.jn (fun z=>z=decide (v<sB l p∧x≤most)) (fun j hj=>aH (fun h=>hj _ ?_) fun h=>hj _ ?_) fun z hz=>?_
  ·by_cases hx:x≤most
   ·rw [decide_eq_true hx,decide_eq_true ⟨h,hx⟩]
   rw [decide_eq_false hx,decide_eq_false fun h=>hx h.2]
  ·rw [decide_eq_false fun h'=>h h'.1]
  subst hz;refine aH (fun⟨hv,hx⟩=>?_) fun hno=>Ev.some ?_
  ·have hsum:x=1+((lK (lN l p) v).map f).sum:=i3 (by apply Int.not_lt.1;intro h;have:=i4 h;omega);have hp':=P6 s1 s2 hp hk3 ⟨i1,hv⟩;have e1:wr (most-x)=most-x:=by rw [aS (by omega)]
   rw [e1];refine aA (eD p (by omega)) (aA (bT (by simp;omega)) (aL (aA9 hf ls n (k+1) (p++[v]) (most-x) (by omega) d2 (by omega) hp' (by omega) (by omega)) fun r ⟨r1,r2,r3,r4⟩=>?_));have hvb:v<sB l p:=hv;have hvr: -1000000000≤v∧v≤1000000000:=by
    have h9:=hp'.2.2 v (by simp);have h8:=T6 hp'.2.1;simp only [w3] at h9;omega
   rw [aS (n:=v+1) (by omega),aS (n:=x+r) (by omega)];have hs:1+((lK (lN l p) (v+1)).map f).sum=x+f v:=by rw [oL i1,aDw,hsum];omega
   refine hr _ ⟨by dsimp only;omega,.inl (by dsimp only;omega),?_,?_,by dsimp only;omega,by dsimp only;omega⟩ (by dsimp only;omega)
   ·dsimp only;rw [hs];intro h
    have:r=f v:=r1 (show f v≤most-x by omega);omega
   dsimp only;rw [hs];intro h
   have:most-x<r:=r2 (show most-x<f v by omega);omega
  have hmono:1+((lK (lN l p) v).map f).sum≤wk (l::ls) p∧(sB l p≤v→1+((lK (lN l p) v).map f).sum=wk (l::ls) p):=by
   rw [hW];by_cases h:v<sB l p
   ·refine⟨?_,fun h'=>by omega⟩;rw [vX i1 h,vAO,List.sum_append,List.map_cons,List.sum_cons]
    have:=qE f (lK (v+1) (sB l p)) fun y _=>hfp y
    have:=hfp v;omega
   have:lK (lN l p) v=lK (lN l p) (sB l p):=by
    rcases i2 with h2|h2
    ·rw [show v=sB l p by omega]
    subst h2;rw [iQ (R4 _),iQ (by omega)]
   rw [this];exact⟨R4 _,fun _=>rfl⟩
  refine⟨fun h=>?_,fun h=>?_,i5,i6⟩
  ·have hx:=i3 (by omega);rw [hx];apply hmono.2;apply Int.not_lt.1;intro hv;exact hno ⟨hv,by omega⟩
  apply Int.not_le.1;intro hx;have hv:sB l p≤v:=by apply Int.not_lt.1;intro hv;exact hno ⟨hv,hx⟩
  have:=i4 (by rw [hmono.2 hv];exact h);omega
theorem uB{nest:List Loop}(hf:Fit nest): ∀(ls:List Loop) (n k:Nat) (p:List Int) (out:List (List Int)),5000+ls.length≤n→nest.drop k=ls→k≤nest.length→qQ k p→wk ls p≤1200→out.length≤120→
  Ev (s_l2Points n out nest p) (fun r=>(out.length+(pts ls p).length≤120→r=out++pts ls p)∧(120<out.length+(pts ls p).length→120<r.length))
 | [],n,k,p,out,hn,hd,hk,hp,h0,h1=>by
  obtain⟨n,rfl⟩: ∃j,n=j+1:=⟨n-1,by omega⟩
  have hk':=D0 hd hk;have hpl:=hp.1;have hf1:=hf.1;unfold s_l2Points;rw [decide_eq_true (show(p.length:Int)=(nest.length:Int) by omega)];refine cD (aA (eD p (by omega)) (aA (bT (by simp;omega)) (Ev.some ⟨fun _=>rfl,fun h=>by simp [pts] at h ⊢; omega⟩)))
 |l::ls,n,k,p,out,hn,hd,hk,hp,h0,h1=>by
  obtain⟨n,rfl⟩: ∃j,n=j+1:=⟨n-1,by omega⟩
  obtain⟨d1,d2,d3⟩:=wI hd;obtain⟨s1,s2⟩:=hf.2 k l d1;have hpl:=hp.1;have hf1:=hf.1;have hk3:k≤3:=by omega
  simp only [List.length_cons] at hn;unfold s_l2Points;rw [decide_eq_false (show¬(p.length:Int)=(nest.length:Int) by omega)];refine cE (aA (x:=l) (by rw [hpl];exact aN d1) (aA (S5 (by omega) s1 s2 hp) ?_));let f:Int→Int:=fun v=>wk ls (p++[v]);have hfp: ∀v,1≤f v:=fun v=>aB2 _ _;have hW:wk (l::ls) p=1+((lK (lN l p) (sB l p)).map f).sum:=rfl;let g:Int→List (List Int):=fun v=>pts ls (p++[v]);have hP:pts (l::ls) p=(lK (lN l p) (sB l p)).flatMap g:=rfl;have hlen:lN l p≤sB l p→sB l p-lN l p≤1199:=fun hle=>by
   have:=qE f (lK (lN l p) (sB l p)) fun y _=>hfp y
   have:=aLF hle;omega
  refine Ev.loop (fun x:List (List Int)×Int=>lN l p≤x.2∧(x.2≤sB l p∨x.2=lN l p)∧(out.length+((lK (lN l p) x.2).flatMap g).length≤120→x.1=out++(lK (lN l p) x.2).flatMap g)∧(120<out.length+((lK (lN l p) x.2).flatMap g).length→120<x.1.length))
   (fun x=>(sB l p-x.2).toNat) ?_ n _ ⟨R4 _,.inr rfl,fun _=>by rw [iQ (R4 _)];simp,fun h=>by rw [iQ (R4 _)] at h;simp at h;omega⟩ (by dsimp only;omega)
  rintro again ⟨x,v⟩ ⟨i1,i2,i3,i4⟩ hr;dsimp only at i1 i2 i3 i4⊢;refine Ev.jn (fun z=>z=decide (v<sB l p∧x.length≤120)) (fun j hj=>aH (fun h=>hj _ ?_) fun h=>hj _ ?_) fun z hz=>?_
  ·by_cases hx:x.length≤120
   ·rw [decide_eq_true (show(x.length:Int)≤120 by omega),decide_eq_true ⟨h,hx⟩]
   rw [decide_eq_false (show¬(x.length:Int)≤120 by omega),decide_eq_false fun h=>hx h.2]
  ·rw [decide_eq_false fun h'=>h h'.1]
  subst hz;refine aH (fun⟨hv,hx⟩=>?_) fun hno=>Ev.some ?_
  ·have hxe:x=out++(lK (lN l p) v).flatMap g:=i3 (by apply Nat.not_lt.1;intro h;have:=i4 h;omega);have hp':=P6 s1 s2 hp hk3 ⟨i1,hv⟩;have hwc:f v≤1200:=by
    rw [hW,vX i1 hv,vAO,List.sum_append,List.map_cons,List.sum_cons] at h0
    have:=qE f (lK (v+1) (sB l p)) fun y _=>hfp y
    have:=qE f (lK (lN l p) v) fun y _=>hfp y;omega
   refine aA (eD p (by omega)) (aA (bT (by simp;omega)) (aL (uB hf ls n (k+1) (p++[v]) x (by omega) d2 (by omega) hp' hwc hx) fun r ⟨r1,r2⟩=>?_));have hvr: -1000000000≤v∧v≤1000000000:=by
    have h9:=hp'.2.2 v (by simp);have h8:=T6 hp'.2.1;simp only [w3] at h9;omega
   rw [aS (n:=v+1) (by omega)];have hs:(lK (lN l p) (v+1)).flatMap g=(lK (lN l p) v).flatMap g++g v:=by rw [oL i1,vAX];simp
   refine hr _ ⟨by dsimp only;omega,.inl (by dsimp only;omega),?_,?_⟩ (by dsimp only;omega)
   ·dsimp only;rw [hs];intro h;simp only [List.length_append] at h;have hl:x.length=out.length+((lK (lN l p) v).flatMap g).length:=by rw [hxe,pE]
    rw [r1 (show x.length+(g v).length≤120 by omega),hxe,vAR]
   dsimp only;rw [hs];intro h;simp only [List.length_append] at h;have hl:x.length=out.length+((lK (lN l p) v).flatMap g).length:=by rw [hxe,pE]
   exact r2 (show 120<x.length+(g v).length by omega)
  have hmono:((lK (lN l p) v).flatMap g).length≤(pts (l::ls) p).length∧(sB l p≤v→(lK (lN l p) v).flatMap g=pts (l::ls) p):=by
   rw [hP];by_cases h:v<sB l p
   ·refine⟨?_,fun h'=>by omega⟩;rw [vX i1 h,vAX,pE];omega
   have:lK (lN l p) v=lK (lN l p) (sB l p):=by
    rcases i2 with h2|h2
    ·rw [show v=sB l p by omega]
    subst h2;rw [iQ (R4 _),iQ (by omega)]
   rw [this];exact⟨jW _,fun _=>rfl⟩
  refine⟨fun h=>?_,fun h=>?_⟩
  ·have hx:=i3 (by omega);rw [hx,hmono.2];apply Int.not_lt.1;intro hv;exact hno ⟨hv,by rw [hx,pE];omega⟩
  apply Nat.not_le.1;intro hx;have hv:sB l p≤v:=by apply Int.not_lt.1;intro hv;exact hno ⟨hv,hx⟩
  have:=i4 (by rw [hmono.2 hv];exact h);omega
theorem aBA{nest:List Loop}(hf:Fit nest): ∀(ls:List Loop) (n k:Nat) (p:List Int) (st:Int) (out:List (List Int)),5000+ls.length≤n→nest.drop k=ls→k≤nest.length→qQ k p→0≤st→st≤1199→out.length≤120→
  Ev (i_walking_walk n ⟨nest,st,out⟩ p) (fun r=>(st+wk ls p≤1200∧out.length+(pts ls p).length≤120→r=(true,⟨nest,st+wk ls p-1,out++pts ls p⟩))∧(¬(st+wk ls p≤1200∧out.length+(pts ls p).length≤120)→r.1=false))
 | [],n,k,p,st,out,hn,hd,hk,hp,h0,h1,h2=>by
  obtain⟨n,rfl⟩: ∃j,n=j+1:=⟨n-1,by omega⟩
  have hk':=D0 hd hk;have hpl:=hp.1;have hf1:=hf.1;unfold i_walking_walk;dsimp only;rw [decide_eq_true (show(p.length:Int)=(nest.length:Int) by omega)];have hc:m_ownClone p=some p:=by unfold m_ownClone;rw [if_pos (by omega)]
  refine cD (aA hc (aA (bT (by simp;omega)) (Ev.some ⟨fun h=>?_,fun h=>?_⟩)))
  ·simp only [wk,pts,List.length_singleton] at h⊢;rw [decide_eq_true (by simp;omega),show st+1-1=st by omega]
  simp only [wk,pts,List.length_singleton] at h⊢;exact decide_eq_false (by simp;omega)
 |l::ls,n,k,p,st,out,hn,hd,hk,hp,h0,h1,h2=>by
  obtain⟨n,rfl⟩: ∃j,n=j+1:=⟨n-1,by omega⟩
  obtain⟨d1,d2,d3⟩:=wI hd;obtain⟨s1,s2⟩:=hf.2 k l d1;have hpl:=hp.1;have hf1:=hf.1;have hk3:k≤3:=by omega
  simp only [List.length_cons] at hn;unfold i_walking_walk;dsimp only;rw [decide_eq_false (show¬(p.length:Int)=(nest.length:Int) by omega)];refine cE (aA (x:=l) (by rw [hpl];exact aN d1) (aA (aH3 (by omega) s1 s2 hp) ?_));let f:Int→Int:=fun v=>wk ls (p++[v]);have hfp: ∀v,1≤f v:=fun v=>aB2 _ _;have hW:wk (l::ls) p=1+((lK (lN l p) (sB l p)).map f).sum:=rfl;let g:Int→List (List Int):=fun v=>pts ls (p++[v]);have hP:pts (l::ls) p=(lK (lN l p) (sB l p)).flatMap g:=rfl;refine Ev.loop (fun x:List Loop×Int×List (List Int)×Int=>x.1=nest∧lN l p≤x.2.2.2∧(x.2.2.2≤sB l p∨x.2.2.2=lN l p)∧x.2.1=st+((lK (lN l p) x.2.2.2).map f).sum∧x.2.2.1=out++(lK (lN l p) x.2.2.2).flatMap g∧0≤x.2.1∧x.2.1≤1199∧x.2.2.1.length≤120)
   (fun x=>(1200-x.2.1).toNat) ?_ n _ ⟨rfl,R4 _,.inr rfl,by dsimp only;rw [iQ (R4 _)];simp,by dsimp only;rw [iQ (R4 _)];simp,h0,h1,h2⟩ (by dsimp only;omega)
  rintro again ⟨nst,x,o,v⟩ ⟨i0,i1,i2,i3,i4,i5,i6,i7⟩ hr;dsimp only at i0 i1 i2 i3 i4 i5 i6 i7⊢;subst i0;have hol:o.length=out.length+((lK (lN l p) v).flatMap g).length:=by rw [i4,pE]
  refine aH (fun hv=>?_) fun hv=>Ev.some ?_
  ·have hp':=P6 s1 s2 hp hk3 ⟨i1,hv⟩;have hrest:wk (l::ls) p≥1+((lK (lN l p) v).map f).sum+f v∧(pts (l::ls) p).length≥((lK (lN l p) v).flatMap g).length+(g v).length:=by
    rw [hW,hP,vX i1 hv,vAO,List.sum_append,List.map_cons,List.sum_cons,vAX,pE,List.flatMap_cons,pE]
    have:=qE f (lK (v+1) (sB l p)) fun y _=>hfp y;constructor
    ·omega
    omega
   have hvr: -1000000000≤v∧v≤1000000000:=by
    have h9:=hp'.2.2 v (by simp);have h8:=T6 hp'.2.1;simp only [w3] at h9;omega
   have e1:wr (x+1)=x+1:=by rw [aS (by omega)]
   have e2:wr (x+1+1)=x+1+1:=by rw [aS (by omega)]
   have e3:wr (v+1)=v+1:=by rw [aS (by omega)]
   rw [e1,e2,e3];refine Ev.jn (fun z:List Loop×Int×List (List Int)×Bool=>(z.2.2.2=false→z.1=nst∧x+f v≤1199∧o.length+(g v).length≤120∧z.2.1=x+f v∧z.2.2.1=o++g v)∧(z.2.2.2=true→ ¬(st+wk (l::ls) p≤1200∧out.length+(pts (l::ls) p).length≤120)))
    (fun j hj=>aH (fun h=>hj _ ⟨fun h'=>(by cases h'),fun _=>?_⟩) fun h=>?_) fun z hz=>?_
   ·have:=hfp v;omega
   ·have hc:m_ownClone p=some p:=by unfold m_ownClone;rw [if_pos (by omega)]
    refine aA hc (aA (bT (by simp;omega)) (aL (aBA hf ls n (k+1) (p++[v]) (x+1) o (by omega) d2 (by omega) hp' (by omega) (by omega) i7) fun r ⟨r1,r2⟩=>?_));by_cases hc:x+1+f v≤1200∧o.length+(g v).length≤120
    ·rw [r1 hc];exact hj _ ⟨fun _=>⟨rfl,by omega,hc.2,show x+1+f v-1=x+f v by omega,rfl⟩,fun h=>(by cases h)⟩
    have hr1:=r2 hc;obtain⟨rb,⟨rn,rs,ro⟩⟩:=r;dsimp only at hr1⊢;subst hr1;exact hj _ ⟨fun h=>(by cases h),fun _=>by omega⟩
   obtain⟨za,zb,zc,zd⟩:=z;obtain⟨z2,z3⟩:=hz;dsimp only at z2 z3⊢;cases zd with
   |true=>exact Ev.some ⟨fun h=>absurd h (z3 rfl),fun _=>rfl⟩
   |false=>
    obtain⟨rfl,y1,y2,y3,y4⟩:=z2 rfl;refine hr _ ⟨rfl,by dsimp only;omega,.inl (by dsimp only;omega),?_,?_,by dsimp only;have:=hfp v;omega,by dsimp only;omega,?_⟩ (by dsimp only;have:=hfp v;omega)
    ·dsimp only;rw [oL i1,aDw,y3,i3];omega
    ·dsimp only;rw [y4,i4,oL i1,vAX];simp
    dsimp only;rw [y4,pE];exact y2
  have:lK (lN l p) v=lK (lN l p) (sB l p):=by
   rcases i2 with h2|h2
   ·rw [show v=sB l p by omega]
   subst h2;rw [iQ (R4 _),iQ (by omega)]
  rw [this] at i3 i4 hol;rw [←hP] at i4 hol;refine⟨fun h=>?_,fun h=>?_⟩
  ·rw [i4,i3,hW,show st+(1+((lK (lN l p) (sB l p)).map f).sum)-1=st+((lK (lN l p) (sB l p)).map f).sum by omega]
  exact absurd ⟨by omega,by omega⟩ h
def NP(nest:List Loop):Option (List (List Int)):=if kM nest=true∧wk nest []≤1200∧(pts nest []).length≤120 then some (pts nest []) else none
def aF1:Option (List (List Int))→List (List Int)×Bool
 |none=>([],false)
 |some l=>(l,true)
theorem pt0:qQ 0 []:=⟨rfl,by omega,fun x h=>by cases h⟩
theorem N6{n:Nat}(hn:6000≤n){nest:List Loop}(h:SmN nest):nF n nest=some (aF1 (NP nest)):=by
 refine Ev.eq ?_;unfold nF;refine aA (X0 (by omega) h) ?_;unfold NP;cases hv:kM nest with
 |false=>exact Ev.some (by simp [aF1])
 |true=>
  have hf:=aCB hv;refine aL (aBA hf nest n 0 [] 0 [] (by have:=hf.1;omega) rfl (by omega) pt0 (by omega) (by omega) (by simp)) fun r ⟨r1,r2⟩=>?_;by_cases hc:(0:Int)+wk nest []≤1200∧([]:List (List Int)).length+(pts nest []).length≤120
  ·rw [r1 hc,if_pos ⟨rfl,by omega,by simpa using hc.2⟩];exact Ev.some (by simp [aF1])
  rw [r2 hc,if_neg fun h=>hc ⟨by omega,by simpa using h.2.2⟩];exact Ev.some rfl
theorem N3{n:Nat}(hn:6000≤n){nest:List Loop}(h:SmN nest):m8 n nest=some (aF1 (NP nest)):=by
 refine Ev.eq ?_;unfold m8;refine Ev.jn (fun z=>z= !(kM nest&&decide (wk nest []≤1200))) (fun j hj=>aA (S9 (by omega) h) ?_) fun z hz=>?_
 ·cases hv:kM nest with
  |false=>exact hj _ (by rw [hv];rfl)
  |true=>
   have hf:=aCB hv;refine aL (aA9 hf nest n 0 [] 1200 (by have:=hf.1;omega) rfl (by omega) pt0 (by omega) (by omega)) fun r ⟨r1,r2,r3,r4⟩=>hj _ ?_;rw [hv,vBc];by_cases hw:wk nest []≤1200
   ·rw [decide_eq_true hw,decide_eq_false (by rw [r1 hw];omega)];rfl
   rw [decide_eq_false hw,decide_eq_true (r2 (by omega))];rfl
 subst hz;unfold NP;cases hv:kM nest with
 |false=>exact Ev.some (by simp [aF1])
 |true=>
  have hf:=aCB hv;by_cases hw:wk nest []≤1200
  ·rw [decide_eq_true hw];refine aL (uB hf nest n 0 [] [] (by have:=hf.1;omega) rfl (by omega) pt0 hw (by simp)) fun r ⟨r1,r2⟩=>?_;by_cases hl:(pts nest []).length≤120
   ·rw [r1 (by simpa using hl),if_pos ⟨rfl,hw,hl⟩];refine aH (fun h=>absurd h (by simp;omega)) fun _=>Ev.some (by simp [aF1])
   have:=r2 (by simp;omega);rw [if_neg fun h=>hl h.2.2];exact aH (fun _=>Ev.some rfl) fun h=>absurd h (by omega)
  rw [decide_eq_false hw,if_neg fun h=>hw h.2.1];exact Ev.some rfl
def oO(s:List UInt8):Bool:=match s with
 | [b]=>decide (65≤b.toNat∧b.toNat≤68)
 |_=>false
theorem xN{s:List UInt8}(h:s.length≠1):oO s=false:=by
 match s,h with
 | [],_=>rfl
 | [b],h=>exact absurd rfl h
 |_::_::_,_=>rfl
theorem aNj{s:List UInt8}(h:s.length=1): ∃b,s=[b]:=by
 match s,h with
 | [b],_=>exact⟨b,rfl⟩
theorem aIM(b:UInt8)(k:Nat)(hk:k<256):(b=UInt8.ofNat k)↔b.toNat=k:=by
 constructor
 ·intro h;rw [h];simp;omega
 intro h;rw [←h];simp
theorem aAP(b:UInt8):Lib.contains [65,66,67,68] [b]=decide (65≤b.toNat∧b.toNat≤68):=by
 have e1:(b=65)↔b.toNat=65:=aIM b 65 (by omega);have e2:(b=66)↔b.toNat=66:=aIM b 66 (by omega);have e3:(b=67)↔b.toNat=67:=aIM b 67 (by omega);have e4:(b=68)↔b.toNat=68:=aIM b 68 (by omega);by_cases h1:b=65
 ·subst h1;decide
 by_cases h2:b=66
 ·subst h2;decide
 by_cases h3:b=67
 ·subst h3;decide
 by_cases h4:b=68
 ·subst h4;decide
 rw [e1] at h1;rw [e2] at h2;rw [e3] at h3;rw [e4] at h4;rw [decide_eq_false (by omega)];rw [←e1] at h1;rw [←e2] at h2;rw [←e3] at h3;rw [←e4] at h4;simp [Lib.contains,Lib.index,h1,h2,h3,h4]
theorem C4(n:Nat)(s:List UInt8):rE n s=some (oO s):=by
 unfold rE;by_cases h:s.length=1
 ·obtain⟨b,rfl⟩:=aNj h;simp only [jn,m_contains];rw [if_pos (by simp),aAP];rfl
 rw [decide_eq_false (show¬(s.length:Int)=1 by omega),xN h];rfl
theorem V5(b:UInt8):Op.bytesLess [b] [65]=decide (b.toNat<65):=by simp [Op.bytesLess,UInt8.lt_iff_toNat_lt]
theorem V4(b:UInt8):(Op.bytesLess [b] [68]||[b]==[68])=decide (b.toNat≤68):=by
 have e:(b=68)↔b.toNat=68:=aIM b 68 (by omega);by_cases h:b=68
 ·subst h;decide
 have h':b.toNat≠68:=fun e'=>h (e.2 e')
 have:([b]==[(68:UInt8)])=false:=by simp [h]
 rw [this,Bool.or_false];simp only [Op.bytesLess,Bool.and_false,Bool.or_false,UInt8.lt_iff_toNat_lt];apply decide_eq_decide.2;show b.toNat<68↔_;omega
def gS(a:Access)(d:Int):Bool:=a.subs.all (fun x=>bZ x d)&&(oO a.array&&decide (1≤a.subs.length∧a.subs.length≤2))
theorem aH7{n:Nat}(hn:5000≤n){a:Affine}(ha:SmA a)(d:Int):kR n a d=some (!bZ a d):=W8 hn ha d
theorem w5{n:Nat}(hn:5000≤n){a:Access}(ha:O5 a.subs)(d:Int):oZ n a d=some (gS a d):=by
 obtain⟨h0,h1⟩:=ha;unfold oZ;rw [C4,sO];have hc:=jP (n:=n) (f:=fun q0=>kR n q0 d) (p:=fun a=> !bZ a d) (l:=a.subs) (fun x hx=>aH7 hn (h1 x hx) d) (by omega) (by omega);simp only [jn,Option.bind];rw [hc];unfold gS;have e:(a.subs.any fun a=> !bZ a d)= !(a.subs.all fun a=>bZ a d):=by
  rw [vBd];simp
 rw [e];cases oO a.array<;>cases decide (1≤a.subs.length∧a.subs.length≤2)<;>simp
theorem wW{n:Nat}(hn:5000≤n){a:Access}(ha:O5 a.subs)(d:Int):oH n a d=some (gS a d):=by
 obtain⟨h0,h1⟩:=ha;refine Ev.eq ?_;unfold oH;refine nN (l:=a.subs) (p:=fun _ a=>bZ a d) (by omega) (by omega) (fun again i x hx hgo hno=>?_) (fun again hall=>?_) (fun⟨i,x,hx,hp⟩=>?_)
 ·have hi:=(cS.1 hx).1;have hm:=h1 x (cP hx);rw [decide_eq_true (show(i:Int)<(a.subs.length:Int) by omega)];refine cD (Ev.jn (fun z=>z= !bZ x d) (fun j hj=>aA (aN hx) (aA (lJ hn x hm) ?_)) fun z hz=>?_)
  ·cases ha:bX x with
   |false=>exact hj _ (by unfold bZ;rw [ha];rfl)
   |true=>exact aA (xH hn hm) (hj _ (by unfold bZ;rw [ha,ltd];simp))
  subst hz;cases hb:bZ x d with
  |true=>show Ev (again _) _;rw [aS (by omega)];exact hgo hb
  |false=>exact Ev.some (hno hb)
 ·rw [decide_eq_false (show¬(a.subs.length:Int)<(a.subs.length:Int) by omega)];have e:a.subs.all (fun a=>bZ a d)=true:=vAF.2 fun c hc=>by obtain⟨i,hi⟩:=vAJ hc;exact hall i c hi
  unfold gS;rw [e,vBc];refine cE (Ev.jn (fun z=>z=(oO a.array&&decide (1≤a.subs.length∧a.subs.length≤2))) (fun j hj=>?_) fun z hz=>Ev.some hz);by_cases h:a.array.length=1
  ·rw [decide_eq_true (show(a.array.length:Int)=1 by omega)];obtain⟨b,hb⟩:=aNj h;rw [hb] at hj⊢;rw [V5,V4];show Ev (bif _ then _ else _) _;simp only [oO] at hj⊢;by_cases g1:b.toNat<65
   ·rw [decide_eq_true g1];exact hj _ (by rw [decide_eq_false (show¬(65≤b.toNat∧b.toNat≤68) by omega)];rfl)
   rw [decide_eq_false g1];by_cases g2:b.toNat≤68
   ·rw [decide_eq_true g2];rw [decide_eq_true (show 65≤b.toNat∧b.toNat≤68 by omega)] at hj⊢;refine aH (fun h=>hj _ ?_) fun h=>hj _ ?_
    ·by_cases h2:a.subs.length≤2
     ·rw [decide_eq_true (show(a.subs.length:Int)≤2 by omega),decide_eq_true (by omega)];rfl
     rw [decide_eq_false (show¬(a.subs.length:Int)≤2 by omega),decide_eq_false (by omega)];rfl
    rw [decide_eq_false (by omega)];rfl
   rw [decide_eq_false g2];exact hj _ (by rw [decide_eq_false (show¬(65≤b.toNat∧b.toNat≤68) by omega)];rfl)
  rw [decide_eq_false (show¬(a.array.length:Int)=1 by omega)];exact hj _ (by rw [xN h];rfl)
 unfold gS;rw [vAK.2 ⟨x,cP hx,by rw [hp];simp⟩];rfl
def jF(a:Affine):Bool:=decide (a.coefs.length=0)&&decide (a.const=0)
def mX(a:Access):Bool:=decide (a.array=[])&&decide (a.subs.length=0)
theorem aLS(k:Nat):decide ((k:Int)=0)=decide (k=0):=decide_eq_decide.2 (by omega)
theorem aAK(n:Nat)(a:Affine):oU n a=some (jF a):=by unfold oU jF;rw [aLS];cases decide (a.coefs.length=0)<;>rfl
theorem aDA(n:Nat)(a:Affine):qZ n a=some (jF a):=by unfold qZ jF;rw [aLS];cases decide (a.coefs.length=0)<;>rfl
theorem aAL(n:Nat)(a:Access):jV n a=some (mX a):=by unfold jV mX;rw [aLS];cases decide (a.array=[])<;>rfl
theorem aCe(n:Nat)(a:Access):nS n a=some (mX a):=by unfold nS mX;rw [aLS];cases decide (a.array=[])<;>rfl
def fU(e:Expr)(d:Int):Bool:=
 if e.kind=2 then decide (e.num=0)&&(mX e.read&&bZ e.index d)
 else if e.kind=3 then decide (e.num=0)&&(jF e.index&&gS e.read d)
 else if e.kind=1 then decide (0≤e.num∧e.num≤99)&&(jF e.index&&mX e.read)
 else decide (e.num=0)&&(jF e.index&&mX e.read)
def iC(k:Int):Int:=if k=1∨k=2∨k=3 then 0 else if k=4∨k=5∨k=6 then 2 else-1
theorem aDB(n:Nat)(k:Int):zV n k=some (iC k):=by
 unfold zV iC;by_cases h1:k=1
 ·subst h1;rfl
 by_cases h2:k=2
 ·subst h2;rfl
 by_cases h3:k=3
 ·subst h3;rfl
 by_cases h4:k=4
 ·subst h4;rfl
 by_cases h5:k=5
 ·subst h5;rfl
 by_cases h6:k=6
 ·subst h6;rfl
 simp [jn,h1,h2,h3,h4,h5,h6]
theorem aFe{n:Nat}(hn:5000≤n){e:Expr}(h1:SmA e.index)(h2:O5 e.read.subs)(d:Int):P4 n e d=some (fU e d):=by
 unfold P4 fU;rw [aCe,aDA,lJ hn _ h1,xH hn h1,wW hn h2];by_cases k2:e.kind=2
 ·rw [if_pos k2,decide_eq_true k2];simp only [jn,Option.bind,cond_true,bZ];cases decide (e.num=0)<;>cases mX e.read<;>cases bX e.index<;>simp
 rw [if_neg k2,decide_eq_false k2];by_cases k3:e.kind=3
 ·rw [if_pos k3,decide_eq_true k3];simp only [jn,Option.bind,cond_true,cond_false];cases decide (e.num=0)<;>cases jF e.index<;>simp
 rw [if_neg k3,decide_eq_false k3];by_cases k1:e.kind=1
 ·rw [if_pos k1,decide_eq_true k1];simp only [jn,Option.bind,cond_true,cond_false];by_cases g1:0≤e.num<;>by_cases g2:e.num≤99<;>cases jF e.index<;>simp [g1,g2]
 rw [if_neg k1,decide_eq_false k1];simp only [jn,Option.bind,cond_false];cases decide (e.num=0)<;>cases jF e.index<;>simp
end Go.Lift
