/- Plain facts on sums of products, on ranges, on the points of a nest. -/
import Derived.Test.YtcihigfifglboaaGreatWLawDraw
set_option maxRecDepth 110000000
set_option linter.unusedVariables false
namespace Go.Lift
open Go
def dot:List Int→List Int→Int
 |c::cs,x::xs=>c*x+dot cs xs
 |_,_=>0
def D3(m:Int)(x:Int):Prop:= -m≤x∧x≤m
theorem aEi{a b c x:Int}(ha:0≤a)(hb:0≤b)(h1:D3 a c)(h2:D3 b x):D3 (a*b) (c*x):=by
 obtain⟨p1,p2⟩:=h1;obtain⟨q1,q2⟩:=h2;constructor
 ·have h:=vBd (show 0≤a+c by omega) (show 0≤b+x by omega);have k:=vBd (show 0≤a-c by omega) (show 0≤b-x by omega);have e1:(a+c)*(b+x)=a*b+a*x+c*b+c*x:=by rw [Int.add_mul,Int.mul_add,Int.mul_add];omega
  have e2:(a-c)*(b-x)=a*b-a*x-c*b+c*x:=by rw [Int.sub_mul,Int.mul_sub,Int.mul_sub];omega
  rw [e1] at h;rw [e2] at k;omega
 have h:=vBd (show 0≤a+c by omega) (show 0≤b-x by omega);have k:=vBd (show 0≤a-c by omega) (show 0≤b+x by omega);have e1:(a+c)*(b-x)=a*b-a*x+c*b-c*x:=by rw [Int.add_mul,Int.mul_sub,Int.mul_sub];omega
 have e2:(a-c)*(b+x)=a*b+a*x-c*b-c*x:=by rw [Int.sub_mul,Int.mul_add,Int.mul_add];omega
 rw [e1] at h;rw [e2] at k;omega
theorem Q1(cs:List Int):dot cs []=0:=by cases cs<;>rfl
theorem X6: ∀{cs xs:List Int} {c x:Int},cs[xs.length]? =some c→dot cs (xs++[x])=dot cs xs+c*x
 | [],xs,c,x,h=>by simp at h
 |d::cs,[],c,x,h=>by simp at h;subst h;simp [dot,Q1]
 |d::cs,y::xs,c,x,h=>by
  have h:cs[xs.length]? =some c:=by simpa using h
  simp only [List.cons_append,dot];rw [X6 h];omega
theorem X5{cs xs:List Int}{i:Nat}{c x:Int}(hc:cs[i]? =some c)(hx:xs[i]? =some x):dot cs (xs.take (i+1))=dot cs (xs.take i)+c*x:=by have hi:=(bV.1 hx).1;rw [vAG,hx];exact X6 (by simpa [Nat.min_eq_left (Nat.le_of_lt hi)] using hc)
theorem aE9{M:Int}(hM:0≤M): ∀{cs xs:List Int},(∀c∈cs,D3 9 c)→(∀x∈xs,D3 M x)→D3 (9*M*xs.length) (dot cs xs)
 | [],xs,_,_=>by
  have:0≤9*M*(xs.length:Int):=vBd (by omega) (by omega);simp only [dot,D3];omega
 |d::cs,[],_,_=>by simp [dot,D3]
 |d::cs,y::xs,hc,hx=>by
  have h1:=aE9 hM (cs:=cs) (xs:=xs) (fun c h=>hc c (by simp [h])) fun x h=>hx x (by simp [h]);have h2:=aEi (by omega) hM (hc d (by simp)) (hx y (by simp));have e:9*M*((y::xs).length:Int)=9*M*(xs.length:Int)+9*M:=by simp [Int.mul_add]
  rw [e];simp only [dot,D3] at*;omega
def iC(lo hi:Int):List Int:=(List.range (hi-lo).toNat).map (fun(i:Nat)=>lo+(i:Int))
theorem aGe{lo hi v:Int}:v∈iC lo hi↔lo≤v∧v<hi:=by
 simp only [iC,List.mem_map,List.mem_range];constructor
 ·rintro⟨i,hi,rfl⟩;omega
 intro h;exact⟨(v-lo).toNat,by omega,by omega⟩
theorem fG{lo hi:Int}(h:hi≤lo):iC lo hi=[]:=by unfold iC;rw [show(hi-lo).toNat=0 by omega];rfl
theorem lC{lo hi:Int}(h:lo≤hi):iC lo (hi+1)=iC lo hi++[hi]:=by unfold iC;rw [show(hi+1-lo).toNat=(hi-lo).toNat+1 by omega,List.range_succ,vBg];simp;omega
theorem qE{lo v hi:Int}(h1:lo≤v)(h2:v<hi):iC lo hi=iC lo v++v::iC (v+1) hi:=by
 obtain⟨k,hk⟩: ∃k:Nat,hi=v+1+k:=⟨(hi-v-1).toNat,by omega⟩
 subst hk;clear h2;induction k with
 |zero=>
  rw [show v+1+((0:Nat):Int)=v+1 by omega,lC h1,fG (yK _)]
 |succ k ih=>
  rw [show v+1+((k+1:Nat):Int)=v+1+(k:Int)+1 by omega,lC (by omega),ih,lC (by omega)];simp
theorem yA{α:Type}{f:α→Option Bool}{p:α→Bool}{l:List α}(hf: ∀x∈l,f x=some (p x)){n:Nat}(hl:l.length<n)(hl2:l.length≤500000000):
  ∃r:Int,aO (fun again2 (x1:Int)=>bif decide (x1<(l.length:Int)) then(Option.bind (ix l x1) fun x3=>Option.bind (f x3) fun x4=>bif x4 then(some x1) else(again2 (wr (x1+1)))) else(some (-1))) n 0=some r∧decide (0≤r)=l.any p:=by
 suffices h:Ev (aO (fun again2 (x1:Int)=>bif decide (x1<(l.length:Int)) then(Option.bind (ix l x1) fun x3=>Option.bind (f x3) fun x4=>bif x4 then(some x1) else(again2 (wr (x1+1)))) else(some (-1))) n 0) (fun r=>decide (0≤r)=l.any p) by exact h
 refine Ev.loop (fun x:Int=>0≤x∧x≤l.length∧(l.take x.toNat).any p=false) (fun x:Int=>l.length-x.toNat) ?_ n 0 ⟨by omega,by omega,by simp⟩ (by simp;omega);rintro again x ⟨h0,h1,h2⟩ hr;refine aI (fun hlt=>?_) fun hge=>?_
 ·obtain⟨y,hy,hy2⟩:=aII h0 hlt;have hm:=cM hy2;refine aB hy (aB (hf y hm) (Ev.cond (fun ht=>Ev.some ?_) fun hfl=>?_))
  ·rw [show l.any p=true from vBn.2 ⟨y,hm,ht⟩];simp [h0]
  rw [aK (by omega)];refine hr _ ⟨by omega,by omega,?_⟩ (by omega);rw [show(x+1).toNat=x.toNat+1 by omega,vAG,hy2];simp [h2,hfl]
 refine Ev.some ?_;have hx:x.toNat=l.length:=by omega
 rw [hx,wI] at h2;rw [h2];simp
theorem jW{f:Int→Option Bool}{p:Int→Bool}{l:List Int}(hf: ∀x∈l,f x=some (p x)){n:Nat}(hl:l.length<n)(hl2:l.length≤500000000):bG n l f=some (l.any p):=by obtain⟨r,h1,h2⟩:=yA hf hl hl2;unfold bG jC;rw [h1,←h2];rfl
theorem oE{f:Affine→Option Bool}{p:Affine→Bool}{l:List Affine}(hf: ∀x∈l,f x=some (p x)){n:Nat}(hl:l.length<n)(hl2:l.length≤500000000):cA n l f=some (l.any p):=by obtain⟨r,h1,h2⟩:=yA hf hl hl2;unfold cA f9;rw [h1,←h2];rfl
theorem F0{f:Stmt→Option Bool}{p:Stmt→Bool}{l:List Stmt}(hf: ∀x∈l,f x=some (p x)){n:Nat}(hl:l.length<n)(hl2:l.length≤500000000):dQ n l f=some (l.any p):=by obtain⟨r,h1,h2⟩:=yA hf hl hl2;unfold dQ iF;rw [h1,←h2];rfl
theorem xH{f:Access→Option Bool}{p:Access→Bool}{l:List Access}(hf: ∀x∈l,f x=some (p x)){n:Nat}(hl:l.length<n)(hl2:l.length≤500000000):cZ n l f=some (l.any p):=by obtain⟨r,h1,h2⟩:=yA hf hl hl2;unfold cZ gA;rw [h1,←h2];rfl
theorem iR{α:Type}{l:List α}{p:Nat→α→Bool}{Q:Bool→Prop}{body:(Int→Option Bool)→Int→Option Bool}{n:Nat}(hl:l.length<n)(hl2:l.length≤500000000)
  (hstep: ∀again (i:Nat) x,l[i]? =some x→(p i x=true→Ev (again ((i:Int)+1)) Q)→(p i x=false→Q false)→Ev (body again (i:Int)) Q)
  (hend: ∀again,(∀(i:Nat) x,l[i]? =some x→p i x=true)→Ev (body again (l.length:Int)) Q) (hbad:(∃(i:Nat) (x:α),l[i]? =some x∧p i x=false)→Q false):Ev (aO body n 0) Q:=by
 refine Ev.loop (fun x:Int=> ∃i:Nat,x=i∧i≤l.length∧ ∀(j:Nat) y,j<i→l[j]? =some y→p j y=true) (fun x:Int=>l.length-x.toNat) ?_ n 0 ⟨0,rfl,by omega,fun j y h=>by omega⟩ (by simp;omega);rintro again x ⟨i,rfl,hi,ha⟩ hr;by_cases hlt:i<l.length
 ·have hx:=cN hlt;refine hstep again i _ hx (fun hp=>hr _ ⟨i+1,by omega,by omega,fun j y hj hy=>?_⟩ (by omega)) fun hp=>hbad ⟨i,_,hx,hp⟩;by_cases hji:j=i
  ·subst hji;rw [hx] at hy;cases hy;exact hp
  exact ha j y (by omega) hy
 have hil:i=l.length:=by omega
 subst hil;exact hend again fun j y hy=>ha j y (bV.1 hy).1 hy
def eN(a:Affine):Bool:=decide (a.coefs.length=4)&&(decide (-99≤a.const∧a.const≤99)&&a.coefs.all fun c=>decide (-9≤c∧c≤9))
theorem uG{a:Affine}(h:eN a=true):a.coefs.length=4∧D3 99 a.const∧ ∀c∈a.coefs,D3 9 c:=by simp only [eN,Bool.and_eq_true,decide_eq_true_eq,List.all_eq_true] at h;exact⟨h.1,h.2.1,h.2.2⟩
theorem dC(n:Nat)(x a b:Int):bR n x a b=some (decide (a≤x∧x≤b)):=by unfold bR;by_cases h1:a≤x<;>by_cases h2:x≤b<;>simp [jn,h1,h2]
theorem m5{n:Nat}(hn:5500000≤n)(a:Affine)(ha:a.coefs.length≤1100000):eG n a=some (eN a):=by
 have hf: ∀x∈a.coefs,eA n x=some (!decide (-9≤x∧x≤9)):=fun x _=>by unfold eA;rw [dC];rfl
 have hc:=jW (n:=n) hf (by omega) (by omega);unfold eG vU;rw [dC];simp only [jn,Option.bind];rw [hc];unfold eN;have e:(a.coefs.any fun x=> !decide (-9≤x∧x≤9))= !(a.coefs.all fun c=>decide (-9≤c∧c≤9)):=by
  rw [vAR];simp
 rw [e];by_cases h1:a.coefs.length=4
 ·rw [decide_eq_true (show(a.coefs.length:Int)=4 by omega),decide_eq_true h1];generalize decide (-99≤a.const∧a.const≤99)=b;cases b<;>simp
 rw [decide_eq_false (show¬(a.coefs.length:Int)=4 by omega),decide_eq_false h1];rfl
theorem o2(n:Nat)(x m:Int)(hm:0≤m∧m≤1000000000):iA n x m=some (decide (-m≤x∧x≤m)):=by
 unfold iA;rw [aK (by omega)];by_cases h1: -m≤x<;>by_cases h2:x≤m
 ·simp [jn,h1,h2]
 ·simp [jn,h1,h2]
 ·simp [jn,h1,h2]
 simp [jn,h1,h2]
theorem iB{n:Nat}(hn:5500000≤n)(a:Affine)(ha:a.coefs.length≤1100000):eD n a=some (eN a):=by
 refine Ev.eq ?_;unfold eD;refine iR (l:=a.coefs) (p:=fun _ c=>decide (-9≤c∧c≤9)) (by omega) (by omega) (fun again i x hx hgo hno=>?_) (fun again hall=>?_) (fun⟨i,x,hx,hp⟩=>?_)
 ·rw [decide_eq_true (show(i:Int)<(a.coefs.length:Int) by have:=(bV.1 hx).1;omega)];refine aB (aQ hx) (aB (o2 n x 9 (by omega)) ?_);have hi:=(bV.1 hx).1;cases hp:decide (-9≤x∧x≤9) with
  |true=>show Ev (again _) _;rw [aK (by omega)];exact hgo hp
  |false=>exact Ev.some (hno hp)
 ·rw [decide_eq_false (show¬(a.coefs.length:Int)<(a.coefs.length:Int) by omega)];have e:a.coefs.all (fun c=>decide (-9≤c∧c≤9))=true:=H3.2 fun c hc=>by obtain⟨i,hi⟩:=vAz hc;exact hall i c hi
  refine Ev.cond (fun h=>(by cases h)) fun _=>?_;unfold eN;rw [e];refine Ev.jn (fun z:Bool=>z=(decide (a.coefs.length=4)&&(decide (-99≤a.const∧a.const≤99)&&true))) (fun j hj=>?_) fun z hz=>Ev.some hz;refine aI (fun h=>aB (o2 n a.const 99 (by omega)) (hj _ ?_)) fun h=>hj _ ?_
  ·rw [decide_eq_true (show a.coefs.length=4 by omega)];simp
  rw [decide_eq_false (show¬a.coefs.length=4 by omega)];rfl
 unfold eN;have e:a.coefs.all (fun c=>decide (-9≤c∧c≤9))=false:=U0.2 ⟨x,cM hx,by rw [hp];simp⟩;rw [e];simp
def dV(a:Affine)(p:List Int):Int:=a.const+dot a.coefs p
def ptB(M:Int)(p:List Int):Prop:= ∀x∈p,D3 M x
theorem qP{a:Affine}(ha:eN a=true){p:List Int}(hp:p.length≤4){M:Int}(hM:0≤M∧M≤1000000000)(hB:ptB M p)(i:Nat)(hi:i≤p.length):D3 1000000000000 (a.const+dot a.coefs (p.take i)):=by
 obtain⟨h1,h2,h3⟩:=uG ha;have h4:=aE9 (M:=M) hM.1 (cs:=a.coefs) (xs:=p.take i) h3 fun x hx=>hB x (vAv hx);have h5:(p.take i).length≤4:=by simp;omega
 have h6:9*M*((p.take i).length:Int)≤9*M*4:=Int.mul_le_mul_of_nonneg_left (by omega) (by omega);simp only [D3] at*;omega
theorem aCO{n:Nat}(hn:5500000≤n){a:Affine}(ha:eN a=true){p:List Int}(hp:p.length≤4){M:Int}(hM:0≤M∧M≤1000000000)(hB:ptB M p):bS n a p=some (dV a p):=by
 obtain⟨h1,h2,h3⟩:=uG ha;refine Ev.eq ?_;unfold bS;refine Ev.loop (fun x:Int×Int=> ∃i:Nat,x.2=i∧i≤p.length∧x.1=a.const+dot a.coefs (p.take i)) (fun x=>p.length-x.2.toNat) ?_ n _ ⟨0,rfl,by omega,by simp [Q1]⟩ (by simp;omega);rintro again ⟨x,k⟩ ⟨i,hk,hi,hx⟩ hr;dsimp only at hk hx⊢;subst hk;refine aI (fun hlt=>?_) fun hge=>Ev.some ?_
 ·have hlt:i<p.length:=by omega
  have hp2:=cN hlt;have hc2:=cN (show i<a.coefs.length by omega);have hd:=X5 hc2 hp2;have e1:=qP ha hp hM hB i hi;have e2:=qP ha hp hM hB (i+1) (by omega);rw [hd] at e2;have e3:=aEi (by omega) hM.1 (h3 _ (cM hc2)) (hB _ (cM hp2));refine aB (aQ hp2) (aB (aQ hc2) ?_);simp only [D3] at e1 e2 e3;rw [aK (n:=a.coefs[i]*p[i]) (by omega),aK (by omega),aK (by omega)];refine hr _ ⟨i+1,by dsimp only;omega,by omega,?_⟩ (by dsimp only;omega);dsimp only;rw [hd,hx];omega
 have:i=p.length:=by omega
 rw [hx,this,wI];rfl
theorem aCA{n:Nat}(hn:5500000≤n){a:Affine}(ha:eN a=true){p:List Int}(hp:p.length≤4){M:Int}(hM:0≤M∧M≤1000000000)(hB:ptB M p):eU n a p=some (dV a p):=by
 obtain⟨h1,h2,h3⟩:=uG ha;refine Ev.eq ?_;unfold eU;refine Ev.loop (fun x:Int×Int=> ∃i:Nat,x.2=i∧i≤p.length∧x.1=a.const+dot a.coefs (p.take i)) (fun x=>p.length-x.2.toNat) ?_ n _ ⟨0,rfl,by omega,by simp [Q1]⟩ (by simp;omega);rintro again ⟨x,k⟩ ⟨i,hk,hi,hx⟩ hr;dsimp only at hk hx⊢;subst hk;refine Ev.jn (fun z=>z=decide (i<p.length)) (fun j hj=>aI (fun h=>hj _ ?_) fun h=>hj _ ?_) fun z hz=>?_
 ·rw [decide_eq_true (show i<p.length by omega),decide_eq_true (show(i:Int)<(a.coefs.length:Int) by omega)]
 ·rw [decide_eq_false (show¬i<p.length by omega)]
 subst hz;refine aI (fun hlt=>?_) fun hge=>Ev.some ?_
 ·have hp2:=cN hlt;have hc2:=cN (show i<a.coefs.length by omega);have hd:=X5 hc2 hp2;have e1:=qP ha hp hM hB i hi;have e2:=qP ha hp hM hB (i+1) (by omega);rw [hd] at e2;have e3:=aEi (by omega) hM.1 (h3 _ (cM hc2)) (hB _ (cM hp2));refine aB (aQ hc2) (aB (aQ hp2) ?_);simp only [D3] at e1 e2 e3;rw [aK (n:=a.coefs[i]*p[i]) (by omega),aK (by omega),aK (by omega)];refine hr _ ⟨i+1,by dsimp only;omega,by omega,?_⟩ (by dsimp only;omega);dsimp only;rw [hd,hx];omega
 have:i=p.length:=by omega
 rw [hx,this,wI];rfl
theorem bY{R:Type}{Q:R→Prop}{A B:Option R}(h:Ev A Q):Ev (bif true then A else B) Q:=h
theorem bA{R:Type}{Q:R→Prop}{A B:Option R}(h:Ev B Q):Ev (bif false then A else B) Q:=h
def eZ:List Int→Nat
 | []=>0
 |c::cs=>if eZ cs=0 then(if c=0 then 0 else 1) else eZ cs+1
theorem wV: ∀(l:List Int) (c:Int),eZ (l++[c])=if c=0 then eZ l else l.length+1
 | [],c=>by simp [eZ]
 |d::l,c=>by
  have ih:=wV l c;simp only [List.cons_append,eZ,ih];by_cases hc:c=0
  ·simp [hc]
  simp [hc]
theorem wU{l:List Int}{i:Nat}{c:Int}(h:l[i]? =some c):eZ (l.take (i+1))=if c=0 then eZ (l.take i) else i+1:=by have hi:=(bV.1 h).1;rw [vAG,h];show eZ (l.take i++[c])=_;rw [wV,D7,Nat.min_eq_left (Nat.le_of_lt hi)]
def SmA(a:Affine):Prop:=a.coefs.length≤1100000
def xJ(l:List Affine):Prop:=l.length≤1100000∧ ∀a∈l,SmA a
theorem rJ{n:Nat}(hn:5500000≤n){a:Affine}(ha:SmA a):kI n a=some (eZ a.coefs:Int):=by
 have ha:a.coefs.length≤1100000:=ha;refine Ev.eq ?_;unfold kI;refine Ev.loop (fun x:Int×Int=> ∃i:Nat,x.2=i∧i≤a.coefs.length∧x.1=(eZ (a.coefs.take i):Int)) (fun x=>a.coefs.length-x.2.toNat) ?_ n _ ⟨0,rfl,by omega,by simp [eZ]⟩ (by simp;omega);rintro again ⟨x,k⟩ ⟨i,hk,hi,hx⟩ hr;dsimp only at hk hx⊢;subst hk;refine aI (fun hlt=>?_) fun hge=>Ev.some ?_
 ·have hlt:i<a.coefs.length:=by omega
  have hc:=cN hlt;have hd:=wU hc;refine Ev.jn (fun z:Int=>z=(eZ (a.coefs.take (i+1)):Int)) (fun j hj=>aB (aQ hc) (dR (fun h0=>hj _ ?_) fun h0=>hj _ ?_)) fun z hz=>?_
  ·rw [hd,if_neg h0,aK (by omega)];omega
  ·rw [hd,if_pos h0,hx]
  rw [aK (by omega)];exact hr _ ⟨i+1,by dsimp only;omega,by omega,hz⟩ (by dsimp only;omega)
 have:i=a.coefs.length:=by omega
 rw [hx,this,wI]
theorem z6{n:Nat}(hn:5500000≤n){a:Affine}(ha:SmA a):dU n a=some (eZ a.coefs:Int):=by
 have ha:a.coefs.length≤1100000:=ha;refine Ev.eq ?_;unfold dU;refine Ev.loop (fun x:Int=> ∃i:Nat,x=i∧i≤a.coefs.length∧eZ a.coefs=eZ (a.coefs.take i)) (fun x=>x.toNat) ?_ n _ ⟨a.coefs.length,rfl,by omega,by rw [wI]⟩ (by simp;omega);rintro again x ⟨i,rfl,hi,hx⟩ hr;cases i with
 |zero=>
  refine Ev.jn (fun z=>z=false) (fun j hj=>aI (fun h=>absurd h (by decide)) fun h=>hj _ rfl) fun z hz=>?_;subst hz;exact Ev.some (by rw [hx];rfl)
 |succ i=>
  have hlt:i<a.coefs.length:=by omega
  have hc:=cN hlt;have hd:=wU hc;have e:wr (((i+1:Nat):Int)-1)=(i:Int):=by rw [aK (by omega)];omega
  rw [e];refine Ev.jn (fun z=>z=decide (a.coefs[i]=0)) (fun j hj=>aI (fun h=>aB (aQ hc) (hj _ rfl)) fun h=>absurd (show(0:Int)<((i+1:Nat):Int) by omega) h) fun z hz=>?_;subst hz;refine aI (fun h0=>?_) fun h0=>Ev.some ?_
  ·exact hr _ ⟨i,rfl,by omega,by rw [hx,hd,if_pos h0]⟩ (by omega)
  rw [hx,hd,if_neg h0]
def bH(a:Affine)(d:Int):Bool:=eN a&&decide ((eZ a.coefs:Int)≤d)
def bU(l:List Affine)(d:Int):Bool:=l.all (fun a=>bH a d)&&decide (1≤l.length∧l.length≤2)
theorem ltd(a b:Int):decide (a<b)= !decide (b≤a):=by
 by_cases h:a<b
 ·rw [decide_eq_true h,decide_eq_false (by omega)];rfl
 rw [decide_eq_false h,decide_eq_true (by omega)];rfl
theorem wK{n:Nat}(hn:5500000≤n){l:List Affine}(hl:xJ l)(d:Int):o7 n l d=some (bU l d):=by
 obtain⟨h0,h1⟩:=hl;refine Ev.eq ?_;unfold o7;refine iR (l:=l) (p:=fun _ a=>bH a d) (by omega) (by omega) (fun again i x hx hgo hno=>?_) (fun again hall=>?_) (fun⟨i,x,hx,hp⟩=>?_)
 ·have hi:=(bV.1 hx).1;have hm:=h1 x (cM hx);rw [decide_eq_true (show(i:Int)<(l.length:Int) by omega)];refine bY (Ev.jn (fun z=>z= !bH x d) (fun j hj=>aB (aQ hx) (aB (iB hn x hm) ?_)) fun z hz=>?_)
  ·cases ha:eN x with
   |false=>exact hj _ (by unfold bH;rw [ha];rfl)
   |true=>exact aB (rJ hn hm) (hj _ (by unfold bH;rw [ha,ltd];simp))
  subst hz;cases hb:bH x d with
  |true=>show Ev (again _) _;rw [aK (by omega)];exact hgo hb
  |false=>exact Ev.some (hno hb)
 ·rw [decide_eq_false (show¬(l.length:Int)<(l.length:Int) by omega)];have e:l.all (fun a=>bH a d)=true:=H3.2 fun c hc=>by obtain⟨i,hi⟩:=vAz hc;exact hall i c hi
  unfold bU;rw [e];refine bA (Ev.jn (fun z=>z=decide (1≤l.length∧l.length≤2)) (fun j hj=>aI (fun h=>hj _ ?_) fun h=>hj _ ?_) fun z hz=>Ev.some (by rw [hz];rfl))
  ·by_cases h2:l.length≤2
   ·rw [decide_eq_true (show(l.length:Int)≤2 by omega),decide_eq_true (by omega)]
   rw [decide_eq_false (show¬(l.length:Int)≤2 by omega),decide_eq_false (by omega)]
  rw [decide_eq_false (by omega)]
 unfold bU;rw [U0.2 ⟨x,cM hx,by rw [hp];simp⟩];rfl
theorem z7{n:Nat}(hn:5500000≤n){a:Affine}(ha:SmA a)(d:Int):fI n a d=some (!bH a d):=by
 unfold fI;rw [m5 hn a ha];simp only [jn,Option.bind];cases hb:eN a with
 |false=>simp [bH,hb]
 |true=>
  rw [z6 hn ha];simp only [bH,hb,Bool.not_true,cond_false,Bool.true_and];rw [ltd]
theorem nP(n k:Nat):bR n (k:Int) 1 2=some (decide (1≤k∧k≤2)):=by
 rw [dC];congr 1;by_cases h:1≤k∧k≤2
 ·rw [decide_eq_true h,decide_eq_true (by omega)]
 rw [decide_eq_false h,decide_eq_false (by omega)]
theorem q6{n:Nat}(hn:5500000≤n){l:List Affine}(hl:xJ l)(d:Int):lJ n l d=some (bU l d):=by
 obtain⟨h0,h1⟩:=hl;unfold lJ;rw [nP];have hc:=oE (n:=n) (f:=fun q0=>fI n q0 d) (p:=fun a=> !bH a d) (l:=l) (fun x hx=>z7 hn (h1 x hx) d) (by omega) (by omega);simp only [jn,Option.bind];rw [hc];unfold bU;have e:(l.any fun a=> !bH a d)= !(l.all fun a=>bH a d):=by
  rw [vAR];simp
 rw [e];cases decide (1≤l.length∧l.length≤2)<;>simp
def zY{α:Type}(p:Nat→α→Bool)(l:List α):Bool:=l.zipIdx.all fun q=>p q.2 q.1
theorem mB{α:Type}{p:Nat→α→Bool}{l:List α}(h: ∀(i:Nat) x,l[i]? =some x→p i x=true):zY p l=true:=
 H3.2 fun q hq=>h q.2 q.1 (vBf.1 hq)
theorem jR{α:Type}{p:Nat→α→Bool}{l:List α}{i:Nat}{x:α}(h:l[i]? =some x)(hp:p i x=false):zY p l=false:=
 U0.2 ⟨(x,i),vBf.2 h,by rw [hp];simp⟩
theorem zX{α:Type}{p:Nat→α→Bool}{l:List α}(h:zY p l=true){i:Nat}{x:α}(hx:l[i]? =some x):p i x=true:=
 H3.1 h (x,i) (vBf.2 hx)
def gR(nest:List Loop):Bool:=zY (fun i l=>bU l.lo (i:Int)&&bU l.hi (i:Int)) nest&&decide (nest.length≤4)
def SmN(nest:List Loop):Prop:=nest.length≤1100000∧ ∀l∈nest,xJ l.lo∧xJ l.hi
theorem A0{n:Nat}(hn:5500000≤n){nest:List Loop}(h:SmN nest):mE n nest=some (gR nest):=by
 obtain⟨h0,h1⟩:=h;refine Ev.eq ?_;unfold mE;refine iR (l:=nest) (p:=fun i l=>bU l.lo (i:Int)&&bU l.hi (i:Int)) (by omega) (by omega) (fun again i x hx hgo hno=>?_) (fun again hall=>?_) (fun⟨i,x,hx,hp⟩=>?_)
 ·have hi:=(bV.1 hx).1;obtain⟨m1,m2⟩:=h1 x (cM hx);rw [decide_eq_true (show(i:Int)<(nest.length:Int) by omega)];refine aB (aQ hx) (Ev.jn (fun z=>z= !(bU x.lo (i:Int)&&bU x.hi (i:Int))) (fun j hj=>aB (q6 hn m1 _) ?_) fun z hz=>?_)
  ·cases ha:bU x.lo (i:Int) with
   |false=>exact hj _ (by rw [ha];rfl)
   |true=>exact aB (q6 hn m2 _) (hj _ (by rw [ha];rfl))
  subst hz;cases hb:(bU x.lo (i:Int)&&bU x.hi (i:Int)) with
  |true=>show Ev (again _) _;rw [aK (by omega)];exact hgo hb
  |false=>exact Ev.some (hno hb)
 ·rw [decide_eq_false (show¬(nest.length:Int)<(nest.length:Int) by omega)];refine Ev.some ?_;unfold gR;rw [mB hall,S6];exact decide_eq_decide.2 (by omega)
 unfold gR;rw [jR hx hp];rfl
theorem yW{n:Nat}(hn:5500000≤n){nest:List Loop}(h:SmN nest):l7 n nest=some (gR nest):=by
 obtain⟨h0,h1⟩:=h;unfold l7;by_cases h4:nest.length≤4
 ·rw [decide_eq_true (show(nest.length:Int)≤4 by omega)];refine Ev.eq ?_;refine iR (l:=nest) (p:=fun i l=>bU l.lo (i:Int)&&bU l.hi (i:Int)) (by omega) (by omega) (fun again i x hx hgo hno=>?_) (fun again hall=>?_) (fun⟨i,x,hx,hp⟩=>?_)
  ·have hi:=(bV.1 hx).1;obtain⟨m1,m2⟩:=h1 x (cM hx);rw [decide_eq_true (show(i:Int)<(nest.length:Int) by omega)];refine Ev.jn (fun z=>z=true) (fun j hj=>bY (hj _ rfl)) fun z hz=>?_;subst hz;refine bY (Ev.jn (fun z=>z= !(bU x.lo (i:Int)&&bU x.hi (i:Int))) (fun j hj=>aB (aQ hx) (aB (wK hn m1 _) ?_)) fun z hz=>?_)
   ·cases ha:bU x.lo (i:Int) with
    |false=>exact hj _ (by rw [ha];rfl)
    |true=>exact aB (wK hn m2 _) (hj _ (by rw [ha];rfl))
   subst hz;cases hb:(bU x.lo (i:Int)&&bU x.hi (i:Int)) with
   |true=>show Ev (again _) _;rw [aK (by omega)];exact hgo hb
   |false=>exact Ev.some (hno hb)
  ·rw [decide_eq_false (show¬(nest.length:Int)<(nest.length:Int) by omega)];refine Ev.jn (fun z=>z=false) (fun j hj=>bA (hj _ rfl)) fun z hz=>?_;subst hz;refine Ev.some ?_;unfold gR;rw [mB hall,decide_eq_true h4];rfl
  unfold gR;rw [jR hx hp];rfl
 obtain⟨k,rfl⟩: ∃k,n=k+1:=⟨n-1,by omega⟩
 rw [decide_eq_false (show¬(nest.length:Int)≤4 by omega)];unfold gR;rw [decide_eq_false h4,Bool.and_false];simp only [aO,jn];cases decide ((0:Int)<(nest.length:Int))<;>rfl
def mx:List Int→Int
 | []=>0
 |x::xs=>xs.foldl max x
def mn:List Int→Int
 | []=>0
 |x::xs=>xs.foldl min x
theorem aGm{l:List Int}(h:l≠[])(x:Int):mx (l++[x])=max (mx l) x:=by
 cases l with
 |nil=>exact absurd rfl h
 |cons a l=>simp [mx,List.foldl_append]
theorem aGn{l:List Int}(h:l≠[])(x:Int):mn (l++[x])=min (mn l) x:=by
 cases l with
 |nil=>exact absurd rfl h
 |cons a l=>simp [mn,List.foldl_append]
theorem aGX: ∀(l:List Int) (a:Int),a≤l.foldl max a
 | [],a=>yK _
 |x::l,a=>Int.le_trans (Int.le_max_left a x) (aGX l (max a x))
theorem aGY: ∀(l:List Int) (a:Int),l.foldl min a≤a
 | [],a=>yK _
 |x::l,a=>Int.le_trans (aGY l (min a x)) (Int.min_le_left a x)
def evs(l:List Affine)(p:List Int):List Int:=l.map fun a=>dV a p
def iE(l:Loop)(p:List Int):Int:=mx (evs l.lo p)
def nB(l:Loop)(p:List Int):Int:=mn (evs l.hi p)
def lQ(k:Nat)(p:List Int):Prop:=p.length=k∧k≤4∧ptB (100*40^k) p
theorem zC{k:Nat}(h:k≤4):(0:Int)≤100*40^k∧(100:Int)*40^k≤1000000000:=by
 match k,h with
 |0,_=>decide
 |1,_=>decide
 |2,_=>decide
 |3,_=>decide
 |4,_=>decide
theorem u4{l:List Affine}{d:Int}(h:bU l d=true):1≤l.length∧l.length≤2∧ ∀a∈l,eN a=true:=by
 simp only [bU,Bool.and_eq_true,decide_eq_true_eq,List.all_eq_true] at h;refine⟨h.2.1,h.2.2,fun a ha=>?_⟩
 have:=h.1 a ha;simp only [bH,Bool.and_eq_true] at this;exact this.1
theorem aEA{a:Affine}(ha:eN a=true){k:Nat}{p:List Int}(hp:lQ k p)(hk:k≤3): -(40*(100*40^k))≤dV a p∧dV a p≤40*(100*40^k):=by
 obtain⟨h1,h2,h3⟩:=uG ha;obtain⟨p1,p2,p3⟩:=hp;obtain⟨q1,q2⟩:=zC (k:=k) (by omega);have hq:(100:Int)≤100*40^k:=by
  match k,hk with
  |0,_=>decide
  |1,_=>decide
  |2,_=>decide
  |3,_=>decide
 generalize (100*40^k:Int)=M at*;have h4:=aE9 (M:=M) q1 (cs:=a.coefs) (xs:=p) h3 fun x hx=>p3 x hx;have h6:9*M*(p.length:Int)≤9*M*3:=Int.mul_le_mul_of_nonneg_left (by omega) (by omega);simp only [D3] at*;unfold dV;omega
theorem aCB{n:Nat}(hn:5500000≤n){a:Affine}(ha:eN a=true){k:Nat}{p:List Int}(hp:lQ k p):eU n a p=some (dV a p):=
 aCA hn ha (by have:=hp.1;have:=hp.2.1;omega) (zC hp.2.1) hp.2.2
theorem aCP{n:Nat}(hn:5500000≤n){a:Affine}(ha:eN a=true){k:Nat}{p:List Int}(hp:lQ k p):bS n a p=some (dV a p):=
 aCO hn ha (by have:=hp.1;have:=hp.2.1;omega) (zC hp.2.1) hp.2.2
theorem iO{l:List Affine}{p:List Int}{i:Nat}{a:Affine}(h:l[i]? =some a):(evs l p)[i]? =some (dV a p):=by unfold evs;rw [List.getElem?_map,h];rfl
theorem xW(l:List Affine)(p:List Int):(evs l p).length=l.length:=vAP ..
theorem aBQ{α:Type}{l:List α}{i:Nat}(h:1≤i)(hl:1≤l.length):l.take i≠[]:=by
 intro e
 have:(l.take i).length=0:=by rw [e];rfl
 rw [D7] at this;omega
theorem aB1{l:List Int}{i:Nat}{x:Int}(h:l[i]? =some x)(hi:1≤i):mx (l.take (i+1))=max (mx (l.take i)) x:=by have:=(bV.1 h).1;rw [vAG,h];exact aGm (aBQ hi (by omega)) x
theorem aB3{l:List Int}{i:Nat}{x:Int}(h:l[i]? =some x)(hi:1≤i):mn (l.take (i+1))=min (mn (l.take i)) x:=by have:=(bV.1 h).1;rw [vAG,h];exact aGn (aBQ hi (by omega)) x
theorem aAS{l:List Int}{x:Int}(h:l[0]? =some x):mx (l.take 1)=x:=by
 cases l with
 |nil=>simp at h
 |cons a l=>simp at h;subst h;rfl
theorem aAT{l:List Int}{x:Int}(h:l[0]? =some x):mn (l.take 1)=x:=by
 cases l with
 |nil=>simp at h
 |cons a l=>simp at h;subst h;rfl
theorem yU{n:Nat}(hn:5500000≤n){l:Loop}{d d':Int}(h1:bU l.lo d=true)(h2:bU l.hi d'=true){k:Nat}{p:List Int}(hp:lQ k p):mW n l p=some (iE l p,nB l p):=by
 obtain⟨a1,a2,a3⟩:=u4 h1;obtain⟨b1,b2,b3⟩:=u4 h2;have g1:=cN (show 0<l.lo.length by omega);have g2:=cN (show 0<l.hi.length by omega);refine Ev.eq ?_;unfold mW;refine aB (aQ (i:=0) g1) (aB (aCB hn (a3 _ (cM g1)) hp) (aB (aQ (i:=0) g2) (aB (aCB hn (b3 _ (cM g2)) hp) ?_)));refine Ev.loop (fun x:Int×Int=> ∃i:Nat,x.2=i∧1≤i∧i≤l.lo.length∧x.1=mx ((evs l.lo p).take i)) (fun x=>l.lo.length-x.2.toNat) ?_ n _ ⟨1,rfl,by omega,by omega,(aAS (iO g1)).symm⟩ (by dsimp only;omega);rintro again ⟨x,z⟩ ⟨i,hz,hi1,hi,hx⟩ hr;dsimp only at hz hx⊢;subst hz;refine aI (fun hlt=>?_) fun hge=>?_
 ·have g:=cN (show i<l.lo.length by omega);have e:=aB1 (iO (p:=p) g) hi1;refine Ev.jn (fun z=>z=mx ((evs l.lo p).take (i+1))) (fun j hj=>aB (aQ g) (aB (aCB hn (a3 _ (cM g)) hp) (aI (fun h=>hj _ ?_) fun h=>hj _ ?_))) fun z hz=>?_
  ·rw [e,←hx];omega
  ·rw [e,←hx];omega
  rw [aK (by omega)];exact hr _ ⟨i+1,by dsimp only;omega,by omega,by omega,hz⟩ (by dsimp only;omega)
 have hie:i=l.lo.length:=by omega
 have hx':x=iE l p:=by rw [hx,hie,←xW l.lo p,wI];rfl
 refine Ev.loop (fun x:Int×Int=> ∃i:Nat,x.2=i∧1≤i∧i≤l.hi.length∧x.1=mn ((evs l.hi p).take i)) (fun x=>l.hi.length-x.2.toNat) ?_ n _ ⟨1,rfl,by omega,by omega,(aAT (iO g2)).symm⟩ (by dsimp only;omega);rintro again2 ⟨y,z⟩ ⟨i,hz,hi1,hi,hy⟩ hr2;dsimp only at hz hy⊢;subst hz;refine aI (fun hlt=>?_) fun hge=>Ev.some ?_
 ·have g:=cN (show i<l.hi.length by omega);have e:=aB3 (iO (p:=p) g) hi1;refine Ev.jn (fun z=>z=mn ((evs l.hi p).take (i+1))) (fun j hj=>aB (aQ g) (aB (aCB hn (b3 _ (cM g)) hp) (aI (fun h=>hj _ ?_) fun h=>hj _ ?_))) fun z hz=>?_
  ·rw [e,←hy];omega
  ·rw [e,←hy];omega
  rw [aK (by omega)];exact hr2 _ ⟨i+1,by dsimp only;omega,by omega,by omega,hz⟩ (by dsimp only;omega)
 have hie:i=l.hi.length:=by omega
 rw [hx',hy,hie,←xW l.hi p,wI];rfl
theorem aCM{n:Nat}(hn:5500000≤n){l:Loop}{d d':Int}(h1:bU l.lo d=true)(h2:bU l.hi d'=true){k:Nat}{p:List Int}(hp:lQ k p):mF n l p=some (iE l p,nB l p):=by
 obtain⟨a1,a2,a3⟩:=u4 h1;obtain⟨b1,b2,b3⟩:=u4 h2;have g1:=cN (show 0<l.lo.length by omega);have g2:=cN (show 0<l.hi.length by omega);refine Ev.eq ?_;unfold mF;refine aB (aQ (i:=0) g1) (aB (aCP hn (a3 _ (cM g1)) hp) (aB (aQ (i:=0) g2) (aB (aCP hn (b3 _ (cM g2)) hp) ?_)));refine Ev.loop (fun x:Int×Int=> ∃i:Nat,x.2=i∧i≤l.lo.length∧x.1=mx ((evs l.lo p).take (max i 1))) (fun x=>l.lo.length-x.2.toNat) ?_ n _ ⟨0,rfl,by omega,(aAS (iO g1)).symm⟩ (by dsimp only;omega);rintro again ⟨x,z⟩ ⟨i,hz,hi,hx⟩ hr;dsimp only at hz hx⊢;subst hz;refine aI (fun hlt=>?_) fun hge=>?_
 ·have g:=cN (show i<l.lo.length by omega);refine aB (aQ g) (aB (aCP hn (a3 _ (cM g)) hp) ?_);rw [aK (by omega)];refine hr _ ⟨i+1,by dsimp only;omega,by omega,?_⟩ (by dsimp only;omega);dsimp only;rw [show max (i+1) 1=i+1 by omega];cases i with
  |zero=>rw [hx,show max 0 1=1 by rfl,lT,aAS (iO g)];omega
  |succ i=>rw [aB1 (iO (p:=p) g) (by omega),hx,show max (i+1) 1=i+1 by omega]
 have hie:i=l.lo.length:=by omega
 have hx':x=iE l p:=by rw [hx,hie,Nat.max_eq_left (by omega),←xW l.lo p,wI];rfl
 refine Ev.loop (fun x:Int×Int=> ∃i:Nat,x.2=i∧i≤l.hi.length∧x.1=mn ((evs l.hi p).take (max i 1))) (fun x=>l.hi.length-x.2.toNat) ?_ n _ ⟨0,rfl,by omega,(aAT (iO g2)).symm⟩ (by dsimp only;omega);rintro again2 ⟨y,z⟩ ⟨i,hz,hi,hy⟩ hr2;dsimp only at hz hy⊢;subst hz;refine aI (fun hlt=>?_) fun hge=>Ev.some ?_
 ·have g:=cN (show i<l.hi.length by omega);refine aB (aQ g) (aB (aCP hn (b3 _ (cM g)) hp) ?_);rw [aK (by omega)];refine hr2 _ ⟨i+1,by dsimp only;omega,by omega,?_⟩ (by dsimp only;omega);dsimp only;rw [show max (i+1) 1=i+1 by omega];cases i with
  |zero=>rw [hy,show max 0 1=1 by rfl,lT,aAT (iO g)];omega
  |succ i=>rw [aB3 (iO (p:=p) g) (by omega),hy,show max (i+1) 1=i+1 by omega]
 have hie:i=l.hi.length:=by omega
 rw [hx',hy,hie,Nat.max_eq_left (by omega),←xW l.hi p,wI];rfl
theorem xP{l:Loop}{d d':Int}(h1:bU l.lo d=true)(h2:bU l.hi d'=true){k:Nat}{p:List Int}(hp:lQ k p)(hk:k≤3){v:Int}(hv:iE l p≤v∧v<nB l p):lQ (k+1) (p++[v]):=by
 obtain⟨a1,a2,a3⟩:=u4 h1;obtain⟨b1,b2,b3⟩:=u4 h2;have e1: -(40*(100*40^k))≤iE l p:=by
  cases hl:l.lo with
  |nil=>rw [hl] at a1;simp at a1
  |cons a as=>
   have:=(aEA (a3 a (by rw [hl];simp)) hp hk).1;unfold iE evs;rw [hl];exact Int.le_trans this (aGX _ _)
 have e2:nB l p≤40*(100*40^k):=by
  cases hl:l.hi with
  |nil=>rw [hl] at b1;simp at b1
  |cons a as=>
   have:=(aEA (b3 a (by rw [hl];simp)) hp hk).2;unfold nB evs;rw [hl];exact Int.le_trans (aGY _ _) this
 obtain⟨p1,p2,p3⟩:=hp;have e3:(100*40^(k+1):Int)=40*(100*40^k):=by rw [Int.pow_succ];omega
 have q:=(zC (k:=k) (by omega)).1;refine⟨by simp [p1],by omega,fun x hx=>?_⟩;rw [e3];rcases D2.1 hx with h|h
 ·have:=p3 x h;simp only [D3] at this⊢;omega
 simp at h;subst h;simp only [D3];omega
def pts:List Loop→List Int→List (List Int)
 | [],p=>[p]
 |l::ls,p=>(iC (iE l p) (nB l p)).flatMap fun v=>pts ls (p++[v])
def wk:List Loop→List Int→Int
 | [],_=>1
 |l::ls,p=>1+((iC (iE l p) (nB l p)).map fun v=>wk ls (p++[v])).sum
theorem mM{α:Type}(f:α→Int): ∀(l:List α),(∀x∈l,1≤f x)→(l.length:Int)≤(l.map f).sum
 | [],_=>by simp
 |x::l,h=>by have h1:=mM f l fun y hy=>h y (by simp [hy]);have h2:=h x (by simp);simp only [List.map_cons,List.sum_cons,List.length_cons];omega
theorem M3: ∀(ls:List Loop) (p:List Int),1≤wk ls p
 | [],p=>yK _
 |l::ls,p=>by have:=mM (fun v=>wk ls (p++[v])) (iC (iE l p) (nB l p)) fun v _=>M3 ls _;simp only [wk];omega
def Fit(nest:List Loop):Prop:=nest.length≤4∧ ∀(i:Nat) l,nest[i]? =some l→bU l.lo (i:Int)=true∧bU l.hi (i:Int)=true
theorem O9{nest:List Loop}(h:gR nest=true):Fit nest:=by
 simp only [gR,Bool.and_eq_true,decide_eq_true_eq] at h;refine⟨h.2,fun i l hl=>?_⟩
 have:=zX h.1 hl;simpa [Bool.and_eq_true] using this
theorem qQ{nest:List Loop}{k:Nat}{l:Loop}{ls:List Loop}(h:nest.drop k=l::ls):nest[k]? =some l∧nest.drop (k+1)=ls∧k<nest.length:=by
 have h1:(nest.drop k)[0]? =some l:=by rw [h];rfl
 rw [vAA,vBs] at h1;refine⟨h1,?_,(bV.1 h1).1⟩
 have:(nest.drop k).drop 1=ls:=by rw [h];rfl
 rwa [List.drop_drop] at this
theorem tQ{nest:List Loop}{k:Nat}(h:nest.drop k=[])(hk:k≤nest.length):k=nest.length:=by
 have:(nest.drop k).length=0:=by rw [h];rfl
 rw [vBo] at this;omega
theorem gF(p:List Int)(h:p.length≤1100000):app [] p=some p:=by rw [jF (by simp;omega)];rfl
theorem U5(l:List Int)(f:Int→Int)(v:Int):((l++[v]).map f).sum=(l.map f).sum+f v:=by simp
theorem aGf{lo v:Int}(h:lo≤v):((iC lo v).length:Int)=v-lo:=by unfold iC;simp;omega
theorem H6{nest:List Loop}(hf:Fit nest): ∀(ls:List Loop) (n k:Nat) (p:List Int) (most:Int),5500000+ls.length≤n→nest.drop k=ls→k≤nest.length→lQ k p→0≤most→most≤1200→
  Ev (s_l2Work n nest p most) (fun r=>(wk ls p≤most→r=wk ls p)∧(most<wk ls p→most<r)∧1≤r∧r≤most+1)
 | [],n,k,p,most,hn,hd,hk,hp,h0,h1=>by
  obtain⟨n,rfl⟩: ∃j,n=j+1:=⟨n-1,by omega⟩
  have hk':=tQ hd hk;have hpl:=hp.1;unfold s_l2Work;rw [decide_eq_true (show(p.length:Int)=(nest.length:Int) by omega)];exact Ev.some ⟨fun _=>rfl,fun h=>by simp only [wk] at h;omega,by omega,by omega⟩
 |l::ls,n,k,p,most,hn,hd,hk,hp,h0,h1=>by
  obtain⟨n,rfl⟩: ∃j,n=j+1:=⟨n-1,by omega⟩
  obtain⟨d1,d2,d3⟩:=qQ hd;obtain⟨s1,s2⟩:=hf.2 k l d1;have hpl:=hp.1;have hk3:k≤3:=by have:=hf.1;omega
  simp only [List.length_cons] at hn;unfold s_l2Work;rw [decide_eq_false (show¬(p.length:Int)=(nest.length:Int) by omega)];refine bA (aB (x:=l) (by rw [hpl];exact aQ d1) (aB (yU (by omega) s1 s2 hp) ?_));let f:Int→Int:=fun v=>wk ls (p++[v]);have hfp: ∀v,1≤f v:=fun v=>M3 _ _;have hW:wk (l::ls) p=1+((iC (iE l p) (nB l p)).map f).sum:=rfl;refine Ev.loop (fun x:Int×Int=>iE l p≤x.2∧(x.2≤nB l p∨x.2=iE l p)∧(1+((iC (iE l p) x.2).map f).sum≤most→x.1=1+((iC (iE l p) x.2).map f).sum)∧(most<1+((iC (iE l p) x.2).map f).sum→most<x.1)∧1≤x.1∧x.1≤most+1)
   (fun x=>(most+1-x.1).toNat) ?_ n _ ⟨yK _,.inr rfl,fun _=>by rw [fG (yK _)];rfl,fun h=>by rw [fG (yK _)] at h;simp at h;dsimp only;omega,by dsimp only;omega,by dsimp only;omega⟩ (by dsimp only;omega)
  rintro again ⟨x,v⟩ ⟨i1,i2,i3,i4,i5,i6⟩ hr;dsimp only at i1 i2 i3 i4 i5 i6⊢;refine Ev.jn (fun z=>z=decide (v<nB l p∧x≤most)) (fun j hj=>aI (fun h=>hj _ ?_) fun h=>hj _ ?_) fun z hz=>?_
  ·by_cases hx:x≤most
   ·rw [decide_eq_true hx,decide_eq_true ⟨h,hx⟩]
   rw [decide_eq_false hx,decide_eq_false fun h=>hx h.2]
  ·rw [decide_eq_false fun h'=>h h'.1]
  subst hz;refine aI (fun⟨hv,hx⟩=>?_) fun hno=>Ev.some ?_
  ·have hsum:x=1+((iC (iE l p) v).map f).sum:=i3 (by apply Int.not_lt.1;intro h;have:=i4 h;omega);have hp':=xP s1 s2 hp hk3 ⟨i1,hv⟩;have e1:wr (most-x)=most-x:=by rw [aK (by omega)]
   rw [e1];refine aB (gF p (by omega)) (aB (jF (by simp;omega)) (fX (H6 hf ls n (k+1) (p++[v]) (most-x) (by omega) d2 (by omega) hp' (by omega) (by omega)) fun r ⟨r1,r2,r3,r4⟩=>?_));have hvb:v<nB l p:=hv;have hvr: -1000000000≤v∧v≤1000000000:=by
    have h9:=hp'.2.2 v (by simp);have h8:=zC hp'.2.1;simp only [D3] at h9;omega
   rw [aK (n:=v+1) (by omega),aK (n:=x+r) (by omega)];have hs:1+((iC (iE l p) (v+1)).map f).sum=x+f v:=by rw [lC i1,U5,hsum];omega
   refine hr _ ⟨by dsimp only;omega,.inl (by dsimp only;omega),?_,?_,by dsimp only;omega,by dsimp only;omega⟩ (by dsimp only;omega)
   ·dsimp only;rw [hs];intro h
    have:r=f v:=r1 (show f v≤most-x by omega);omega
   dsimp only;rw [hs];intro h
   have:most-x<r:=r2 (show most-x<f v by omega);omega
  have hmono:1+((iC (iE l p) v).map f).sum≤wk (l::ls) p∧(nB l p≤v→1+((iC (iE l p) v).map f).sum=wk (l::ls) p):=by
   rw [hW];by_cases h:v<nB l p
   ·refine⟨?_,fun h'=>by omega⟩;rw [qE i1 h,vBg,List.sum_append,List.map_cons,List.sum_cons]
    have:=mM f (iC (v+1) (nB l p)) fun y _=>hfp y
    have:=hfp v;omega
   have:iC (iE l p) v=iC (iE l p) (nB l p):=by
    rcases i2 with h2|h2
    ·rw [show v=nB l p by omega]
    subst h2;rw [fG (yK _),fG (by omega)]
   rw [this];exact⟨yK _,fun _=>rfl⟩
  refine⟨fun h=>?_,fun h=>?_,i5,i6⟩
  ·have hx:=i3 (by omega);rw [hx];apply hmono.2;apply Int.not_lt.1;intro hv;exact hno ⟨hv,by omega⟩
  apply Int.not_le.1;intro hx;have hv:nB l p≤v:=by apply Int.not_lt.1;intro hv;exact hno ⟨hv,hx⟩
  have:=i4 (by rw [hmono.2 hv];exact h);omega
theorem o4{nest:List Loop}(hf:Fit nest): ∀(ls:List Loop) (n k:Nat) (p:List Int) (out:List (List Int)),5500000+ls.length≤n→nest.drop k=ls→k≤nest.length→lQ k p→wk ls p≤1200→out.length≤120→
  Ev (s_l2Points n out nest p) (fun r=>(out.length+(pts ls p).length≤120→r=out++pts ls p)∧(120<out.length+(pts ls p).length→120<r.length))
 | [],n,k,p,out,hn,hd,hk,hp,h0,h1=>by
  obtain⟨n,rfl⟩: ∃j,n=j+1:=⟨n-1,by omega⟩
  have hk':=tQ hd hk;have hpl:=hp.1;have hf1:=hf.1;unfold s_l2Points;rw [decide_eq_true (show(p.length:Int)=(nest.length:Int) by omega)];refine bY (aB (gF p (by omega)) (aB (jF (by simp;omega)) (Ev.some ⟨fun _=>rfl,fun h=>by simp [pts] at h ⊢; omega⟩)))
 |l::ls,n,k,p,out,hn,hd,hk,hp,h0,h1=>by
  obtain⟨n,rfl⟩: ∃j,n=j+1:=⟨n-1,by omega⟩
  obtain⟨d1,d2,d3⟩:=qQ hd;obtain⟨s1,s2⟩:=hf.2 k l d1;have hpl:=hp.1;have hf1:=hf.1;have hk3:k≤3:=by omega
  simp only [List.length_cons] at hn;unfold s_l2Points;rw [decide_eq_false (show¬(p.length:Int)=(nest.length:Int) by omega)];refine bA (aB (x:=l) (by rw [hpl];exact aQ d1) (aB (yU (by omega) s1 s2 hp) ?_));let f:Int→Int:=fun v=>wk ls (p++[v]);have hfp: ∀v,1≤f v:=fun v=>M3 _ _;have hW:wk (l::ls) p=1+((iC (iE l p) (nB l p)).map f).sum:=rfl;let g:Int→List (List Int):=fun v=>pts ls (p++[v]);have hP:pts (l::ls) p=(iC (iE l p) (nB l p)).flatMap g:=rfl;have hlen:iE l p≤nB l p→nB l p-iE l p≤1199:=fun hle=>by
   have:=mM f (iC (iE l p) (nB l p)) fun y _=>hfp y
   have:=aGf hle;omega
  refine Ev.loop (fun x:List (List Int)×Int=>iE l p≤x.2∧(x.2≤nB l p∨x.2=iE l p)∧(out.length+((iC (iE l p) x.2).flatMap g).length≤120→x.1=out++(iC (iE l p) x.2).flatMap g)∧(120<out.length+((iC (iE l p) x.2).flatMap g).length→120<x.1.length))
   (fun x=>(nB l p-x.2).toNat) ?_ n _ ⟨yK _,.inr rfl,fun _=>by rw [fG (yK _)];simp,fun h=>by rw [fG (yK _)] at h;simp at h;omega⟩ (by dsimp only;omega)
  rintro again ⟨x,v⟩ ⟨i1,i2,i3,i4⟩ hr;dsimp only at i1 i2 i3 i4⊢;refine Ev.jn (fun z=>z=decide (v<nB l p∧x.length≤120)) (fun j hj=>aI (fun h=>hj _ ?_) fun h=>hj _ ?_) fun z hz=>?_
  ·by_cases hx:x.length≤120
   ·rw [decide_eq_true (show(x.length:Int)≤120 by omega),decide_eq_true ⟨h,hx⟩]
   rw [decide_eq_false (show¬(x.length:Int)≤120 by omega),decide_eq_false fun h=>hx h.2]
  ·rw [decide_eq_false fun h'=>h h'.1]
  subst hz;refine aI (fun⟨hv,hx⟩=>?_) fun hno=>Ev.some ?_
  ·have hxe:x=out++(iC (iE l p) v).flatMap g:=i3 (by apply Nat.not_lt.1;intro h;have:=i4 h;omega);have hp':=xP s1 s2 hp hk3 ⟨i1,hv⟩;have hwc:f v≤1200:=by
    rw [hW,qE i1 hv,vBg,List.sum_append,List.map_cons,List.sum_cons] at h0
    have:=mM f (iC (v+1) (nB l p)) fun y _=>hfp y
    have:=mM f (iC (iE l p) v) fun y _=>hfp y;omega
   refine aB (gF p (by omega)) (aB (jF (by simp;omega)) (fX (o4 hf ls n (k+1) (p++[v]) x (by omega) d2 (by omega) hp' hwc hx) fun r ⟨r1,r2⟩=>?_));have hvr: -1000000000≤v∧v≤1000000000:=by
    have h9:=hp'.2.2 v (by simp);have h8:=zC hp'.2.1;simp only [D3] at h9;omega
   rw [aK (n:=v+1) (by omega)];have hs:(iC (iE l p) (v+1)).flatMap g=(iC (iE l p) v).flatMap g++g v:=by rw [lC i1,vAV];simp
   refine hr _ ⟨by dsimp only;omega,.inl (by dsimp only;omega),?_,?_⟩ (by dsimp only;omega)
   ·dsimp only;rw [hs];intro h;simp only [List.length_append] at h;have hl:x.length=out.length+((iC (iE l p) v).flatMap g).length:=by rw [hxe,n8]
    rw [r1 (show x.length+(g v).length≤120 by omega),hxe,vAT]
   dsimp only;rw [hs];intro h;simp only [List.length_append] at h;have hl:x.length=out.length+((iC (iE l p) v).flatMap g).length:=by rw [hxe,n8]
   exact r2 (show 120<x.length+(g v).length by omega)
  have hmono:((iC (iE l p) v).flatMap g).length≤(pts (l::ls) p).length∧(nB l p≤v→(iC (iE l p) v).flatMap g=pts (l::ls) p):=by
   rw [hP];by_cases h:v<nB l p
   ·refine⟨?_,fun h'=>by omega⟩;rw [qE i1 h,vAV,n8];omega
   have:iC (iE l p) v=iC (iE l p) (nB l p):=by
    rcases i2 with h2|h2
    ·rw [show v=nB l p by omega]
    subst h2;rw [fG (yK _),fG (by omega)]
   rw [this];exact⟨jJ _,fun _=>rfl⟩
  refine⟨fun h=>?_,fun h=>?_⟩
  ·have hx:=i3 (by omega);rw [hx,hmono.2];apply Int.not_lt.1;intro hv;exact hno ⟨hv,by rw [hx,n8];omega⟩
  apply Nat.not_le.1;intro hx;have hv:nB l p≤v:=by apply Int.not_lt.1;intro hv;exact hno ⟨hv,hx⟩
  have:=i4 (by rw [hmono.2 hv];exact h);omega
theorem J7{nest:List Loop}(hf:Fit nest): ∀(ls:List Loop) (n k:Nat) (p:List Int) (st:Int) (out:List (List Int)),5500000+ls.length≤n→nest.drop k=ls→k≤nest.length→lQ k p→0≤st→st≤1199→out.length≤120→
  Ev (i_walking_walk n ⟨nest,st,out⟩ p) (fun r=>(st+wk ls p≤1200∧out.length+(pts ls p).length≤120→r=(true,⟨nest,st+wk ls p-1,out++pts ls p⟩))∧(¬(st+wk ls p≤1200∧out.length+(pts ls p).length≤120)→r.1=false))
 | [],n,k,p,st,out,hn,hd,hk,hp,h0,h1,h2=>by
  obtain⟨n,rfl⟩: ∃j,n=j+1:=⟨n-1,by omega⟩
  have hk':=tQ hd hk;have hpl:=hp.1;have hf1:=hf.1;unfold i_walking_walk;dsimp only;rw [decide_eq_true (show(p.length:Int)=(nest.length:Int) by omega)];have hc:m_ownClone p=some p:=by unfold m_ownClone;rw [if_pos (by omega)]
  refine bY (aB hc (aB (jF (by simp;omega)) (Ev.some ⟨fun h=>?_,fun h=>?_⟩)))
  ·simp only [wk,pts,List.length_singleton] at h⊢;rw [decide_eq_true (by simp;omega),show st+1-1=st by omega]
  simp only [wk,pts,List.length_singleton] at h⊢;exact decide_eq_false (by simp;omega)
 |l::ls,n,k,p,st,out,hn,hd,hk,hp,h0,h1,h2=>by
  obtain⟨n,rfl⟩: ∃j,n=j+1:=⟨n-1,by omega⟩
  obtain⟨d1,d2,d3⟩:=qQ hd;obtain⟨s1,s2⟩:=hf.2 k l d1;have hpl:=hp.1;have hf1:=hf.1;have hk3:k≤3:=by omega
  simp only [List.length_cons] at hn;unfold i_walking_walk;dsimp only;rw [decide_eq_false (show¬(p.length:Int)=(nest.length:Int) by omega)];refine bA (aB (x:=l) (by rw [hpl];exact aQ d1) (aB (aCM (by omega) s1 s2 hp) ?_));let f:Int→Int:=fun v=>wk ls (p++[v]);have hfp: ∀v,1≤f v:=fun v=>M3 _ _;have hW:wk (l::ls) p=1+((iC (iE l p) (nB l p)).map f).sum:=rfl;let g:Int→List (List Int):=fun v=>pts ls (p++[v]);have hP:pts (l::ls) p=(iC (iE l p) (nB l p)).flatMap g:=rfl;refine Ev.loop (fun x:List Loop×Int×List (List Int)×Int=>x.1=nest∧iE l p≤x.2.2.2∧(x.2.2.2≤nB l p∨x.2.2.2=iE l p)∧x.2.1=st+((iC (iE l p) x.2.2.2).map f).sum∧x.2.2.1=out++(iC (iE l p) x.2.2.2).flatMap g∧0≤x.2.1∧x.2.1≤1199∧x.2.2.1.length≤120)
   (fun x=>(1200-x.2.1).toNat) ?_ n _ ⟨rfl,yK _,.inr rfl,by dsimp only;rw [fG (yK _)];simp,by dsimp only;rw [fG (yK _)];simp,h0,h1,h2⟩ (by dsimp only;omega)
  rintro again ⟨nst,x,o,v⟩ ⟨i0,i1,i2,i3,i4,i5,i6,i7⟩ hr;dsimp only at i0 i1 i2 i3 i4 i5 i6 i7⊢;subst i0;have hol:o.length=out.length+((iC (iE l p) v).flatMap g).length:=by rw [i4,n8]
  refine aI (fun hv=>?_) fun hv=>Ev.some ?_
  ·have hp':=xP s1 s2 hp hk3 ⟨i1,hv⟩;have hrest:wk (l::ls) p≥1+((iC (iE l p) v).map f).sum+f v∧(pts (l::ls) p).length≥((iC (iE l p) v).flatMap g).length+(g v).length:=by
    rw [hW,hP,qE i1 hv,vBg,List.sum_append,List.map_cons,List.sum_cons,vAV,n8,List.flatMap_cons,n8]
    have:=mM f (iC (v+1) (nB l p)) fun y _=>hfp y;constructor
    ·omega
    omega
   have hvr: -1000000000≤v∧v≤1000000000:=by
    have h9:=hp'.2.2 v (by simp);have h8:=zC hp'.2.1;simp only [D3] at h9;omega
   have e1:wr (x+1)=x+1:=by rw [aK (by omega)]
   have e2:wr (x+1+1)=x+1+1:=by rw [aK (by omega)]
   have e3:wr (v+1)=v+1:=by rw [aK (by omega)]
   rw [e1,e2,e3];refine Ev.jn (fun z:List Loop×Int×List (List Int)×Bool=>(z.2.2.2=false→z.1=nst∧x+f v≤1199∧o.length+(g v).length≤120∧z.2.1=x+f v∧z.2.2.1=o++g v)∧(z.2.2.2=true→ ¬(st+wk (l::ls) p≤1200∧out.length+(pts (l::ls) p).length≤120)))
    (fun j hj=>aI (fun h=>hj _ ⟨fun h'=>(by cases h'),fun _=>?_⟩) fun h=>?_) fun z hz=>?_
   ·have:=hfp v;omega
   ·have hc:m_ownClone p=some p:=by unfold m_ownClone;rw [if_pos (by omega)]
    refine aB hc (aB (jF (by simp;omega)) (fX (J7 hf ls n (k+1) (p++[v]) (x+1) o (by omega) d2 (by omega) hp' (by omega) (by omega) i7) fun r ⟨r1,r2⟩=>?_));by_cases hc:x+1+f v≤1200∧o.length+(g v).length≤120
    ·rw [r1 hc];exact hj _ ⟨fun _=>⟨rfl,by omega,hc.2,show x+1+f v-1=x+f v by omega,rfl⟩,fun h=>(by cases h)⟩
    have hr1:=r2 hc;obtain⟨rb,⟨rn,rs,ro⟩⟩:=r;dsimp only at hr1⊢;subst hr1;exact hj _ ⟨fun h=>(by cases h),fun _=>by omega⟩
   obtain⟨za,zb,zc,zd⟩:=z;obtain⟨z2,z3⟩:=hz;dsimp only at z2 z3⊢;cases zd with
   |true=>exact Ev.some ⟨fun h=>absurd h (z3 rfl),fun _=>rfl⟩
   |false=>
    obtain⟨rfl,y1,y2,y3,y4⟩:=z2 rfl;refine hr _ ⟨rfl,by dsimp only;omega,.inl (by dsimp only;omega),?_,?_,by dsimp only;have:=hfp v;omega,by dsimp only;omega,?_⟩ (by dsimp only;have:=hfp v;omega)
    ·dsimp only;rw [lC i1,U5,y3,i3];omega
    ·dsimp only;rw [y4,i4,lC i1,vAV];simp
    dsimp only;rw [y4,n8];exact y2
  have:iC (iE l p) v=iC (iE l p) (nB l p):=by
   rcases i2 with h2|h2
   ·rw [show v=nB l p by omega]
   subst h2;rw [fG (yK _),fG (by omega)]
  rw [this] at i3 i4 hol;rw [←hP] at i4 hol;refine⟨fun h=>?_,fun h=>?_⟩
  ·rw [i4,i3,hW,show st+(1+((iC (iE l p) (nB l p)).map f).sum)-1=st+((iC (iE l p) (nB l p)).map f).sum by omega]
  exact absurd ⟨by omega,by omega⟩ h
def NP(nest:List Loop):Option (List (List Int)):=if gR nest=true∧wk nest []≤1200∧(pts nest []).length≤120 then some (pts nest []) else none
def aBf:Option (List (List Int))→List (List Int)×Bool
 |none=>([],false)
 |some l=>(l,true)
theorem pt0:lQ 0 []:=⟨rfl,by omega,fun x h=>by cases h⟩
theorem xG{n:Nat}(hn:6600000≤n){nest:List Loop}(h:SmN nest):jU n nest=some (aBf (NP nest)):=by
 refine Ev.eq ?_;unfold jU;refine aB (A0 (by omega) h) ?_;unfold NP;cases hv:gR nest with
 |false=>exact Ev.some (by simp [aBf])
 |true=>
  have hf:=O9 hv;refine fX (J7 hf nest n 0 [] 0 [] (by have:=hf.1;omega) rfl (by omega) pt0 (by omega) (by omega) (by simp)) fun r ⟨r1,r2⟩=>?_;by_cases hc:(0:Int)+wk nest []≤1200∧([]:List (List Int)).length+(pts nest []).length≤120
  ·rw [r1 hc,if_pos ⟨rfl,by omega,by simpa using hc.2⟩];exact Ev.some (by simp [aBf])
  rw [r2 hc,if_neg fun h=>hc ⟨by omega,by simpa using h.2.2⟩];exact Ev.some rfl
theorem xA{n:Nat}(hn:6600000≤n){nest:List Loop}(h:SmN nest):jO n nest=some (aBf (NP nest)):=by
 refine Ev.eq ?_;unfold jO;refine Ev.jn (fun z=>z= !(gR nest&&decide (wk nest []≤1200))) (fun j hj=>aB (yW (by omega) h) ?_) fun z hz=>?_
 ·cases hv:gR nest with
  |false=>exact hj _ (by rw [hv];rfl)
  |true=>
   have hf:=O9 hv;refine fX (H6 hf nest n 0 [] 1200 (by have:=hf.1;omega) rfl (by omega) pt0 (by omega) (by omega)) fun r ⟨r1,r2,r3,r4⟩=>hj _ ?_;rw [hv,S6];by_cases hw:wk nest []≤1200
   ·rw [decide_eq_true hw,decide_eq_false (by rw [r1 hw];omega)];rfl
   rw [decide_eq_false hw,decide_eq_true (r2 (by omega))];rfl
 subst hz;unfold NP;cases hv:gR nest with
 |false=>exact Ev.some (by simp [aBf])
 |true=>
  have hf:=O9 hv;by_cases hw:wk nest []≤1200
  ·rw [decide_eq_true hw];refine fX (o4 hf nest n 0 [] [] (by have:=hf.1;omega) rfl (by omega) pt0 hw (by simp)) fun r ⟨r1,r2⟩=>?_;by_cases hl:(pts nest []).length≤120
   ·rw [r1 (by simpa using hl),if_pos ⟨rfl,hw,hl⟩];refine aI (fun h=>absurd h (by simp;omega)) fun _=>Ev.some (by simp [aBf])
   have:=r2 (by simp;omega);rw [if_neg fun h=>hl h.2.2];exact aI (fun _=>Ev.some rfl) fun h=>absurd h (by omega)
  rw [decide_eq_false hw,if_neg fun h=>hw h.2.1];exact Ev.some rfl
def lD(s:List UInt8):Bool:=match s with
 | [b]=>decide (65≤b.toNat∧b.toNat≤68)
 |_=>false
theorem rP{s:List UInt8}(h:s.length≠1):lD s=false:=by
 match s,h with
 | [],_=>rfl
 | [b],h=>exact absurd rfl h
 |_::_::_,_=>rfl
theorem aHG{s:List UInt8}(h:s.length=1): ∃b,s=[b]:=by
 match s,h with
 | [b],_=>exact⟨b,rfl⟩
theorem aDy(b:UInt8)(k:Nat)(hk:k<256):(b=UInt8.ofNat k)↔b.toNat=k:=by
 constructor
 ·intro h;rw [h];simp;omega
 intro h;rw [←h];simp
theorem E9(b:UInt8):Lib.contains [65,66,67,68] [b]=decide (65≤b.toNat∧b.toNat≤68):=by
 have e1:(b=65)↔b.toNat=65:=aDy b 65 (by omega);have e2:(b=66)↔b.toNat=66:=aDy b 66 (by omega);have e3:(b=67)↔b.toNat=67:=aDy b 67 (by omega);have e4:(b=68)↔b.toNat=68:=aDy b 68 (by omega);by_cases h1:b=65
 ·subst h1;decide
 by_cases h2:b=66
 ·subst h2;decide
 by_cases h3:b=67
 ·subst h3;decide
 by_cases h4:b=68
 ·subst h4;decide
 rw [e1] at h1;rw [e2] at h2;rw [e3] at h3;rw [e4] at h4;rw [decide_eq_false (by omega)];rw [←e1] at h1;rw [←e2] at h2;rw [←e3] at h3;rw [←e4] at h4;simp [Lib.contains,Lib.index,h1,h2,h3,h4]
theorem tJ(n:Nat)(s:List UInt8):m4 n s=some (lD s):=by
 unfold m4;by_cases h:s.length=1
 ·obtain⟨b,rfl⟩:=aHG h;simp only [jn,m_contains];rw [if_pos (by simp),E9];rfl
 rw [decide_eq_false (show¬(s.length:Int)=1 by omega),rP h];rfl
theorem zP(b:UInt8):Op.bytesLess [b] [65]=decide (b.toNat<65):=by simp [Op.bytesLess,UInt8.lt_iff_toNat_lt]
theorem zO(b:UInt8):(Op.bytesLess [b] [68]||[b]==[68])=decide (b.toNat≤68):=by
 have e:(b=68)↔b.toNat=68:=aDy b 68 (by omega);by_cases h:b=68
 ·subst h;decide
 have h':b.toNat≠68:=fun e'=>h (e.2 e')
 have:([b]==[(68:UInt8)])=false:=by simp [h]
 rw [this,Bool.or_false];simp only [Op.bytesLess,Bool.and_false,Bool.or_false,UInt8.lt_iff_toNat_lt];apply decide_eq_decide.2;show b.toNat<68↔_;omega
def gG(a:Access)(d:Int):Bool:=a.subs.all (fun x=>bH x d)&&(lD a.array&&decide (1≤a.subs.length∧a.subs.length≤2))
theorem aCQ{n:Nat}(hn:5500000≤n){a:Affine}(ha:SmA a)(d:Int):gT n a d=some (!bH a d):=z7 hn ha d
theorem q7{n:Nat}(hn:5500000≤n){a:Access}(ha:xJ a.subs)(d:Int):lK n a d=some (gG a d):=by
 obtain⟨h0,h1⟩:=ha;unfold lK;rw [tJ,nP];have hc:=oE (n:=n) (f:=fun q0=>gT n q0 d) (p:=fun a=> !bH a d) (l:=a.subs) (fun x hx=>aCQ hn (h1 x hx) d) (by omega) (by omega);simp only [jn,Option.bind];rw [hc];unfold gG;have e:(a.subs.any fun a=> !bH a d)= !(a.subs.all fun a=>bH a d):=by
  rw [vAR];simp
 rw [e];cases lD a.array<;>cases decide (1≤a.subs.length∧a.subs.length≤2)<;>simp
theorem qY{n:Nat}(hn:5500000≤n){a:Access}(ha:xJ a.subs)(d:Int):kZ n a d=some (gG a d):=by
 obtain⟨h0,h1⟩:=ha;refine Ev.eq ?_;unfold kZ;refine iR (l:=a.subs) (p:=fun _ a=>bH a d) (by omega) (by omega) (fun again i x hx hgo hno=>?_) (fun again hall=>?_) (fun⟨i,x,hx,hp⟩=>?_)
 ·have hi:=(bV.1 hx).1;have hm:=h1 x (cM hx);rw [decide_eq_true (show(i:Int)<(a.subs.length:Int) by omega)];refine bY (Ev.jn (fun z=>z= !bH x d) (fun j hj=>aB (aQ hx) (aB (iB hn x hm) ?_)) fun z hz=>?_)
  ·cases ha:eN x with
   |false=>exact hj _ (by unfold bH;rw [ha];rfl)
   |true=>exact aB (rJ hn hm) (hj _ (by unfold bH;rw [ha,ltd];simp))
  subst hz;cases hb:bH x d with
  |true=>show Ev (again _) _;rw [aK (by omega)];exact hgo hb
  |false=>exact Ev.some (hno hb)
 ·rw [decide_eq_false (show¬(a.subs.length:Int)<(a.subs.length:Int) by omega)];have e:a.subs.all (fun a=>bH a d)=true:=H3.2 fun c hc=>by obtain⟨i,hi⟩:=vAz hc;exact hall i c hi
  unfold gG;rw [e,S6];refine bA (Ev.jn (fun z=>z=(lD a.array&&decide (1≤a.subs.length∧a.subs.length≤2))) (fun j hj=>?_) fun z hz=>Ev.some hz);by_cases h:a.array.length=1
  ·rw [decide_eq_true (show(a.array.length:Int)=1 by omega)];obtain⟨b,hb⟩:=aHG h;rw [hb] at hj⊢;rw [zP,zO];show Ev (bif _ then _ else _) _;simp only [lD] at hj⊢;by_cases g1:b.toNat<65
   ·rw [decide_eq_true g1];exact hj _ (by rw [decide_eq_false (show¬(65≤b.toNat∧b.toNat≤68) by omega)];rfl)
   rw [decide_eq_false g1];by_cases g2:b.toNat≤68
   ·rw [decide_eq_true g2];rw [decide_eq_true (show 65≤b.toNat∧b.toNat≤68 by omega)] at hj⊢;refine aI (fun h=>hj _ ?_) fun h=>hj _ ?_
    ·by_cases h2:a.subs.length≤2
     ·rw [decide_eq_true (show(a.subs.length:Int)≤2 by omega),decide_eq_true (by omega)];rfl
     rw [decide_eq_false (show¬(a.subs.length:Int)≤2 by omega),decide_eq_false (by omega)];rfl
    rw [decide_eq_false (by omega)];rfl
   rw [decide_eq_false g2];exact hj _ (by rw [decide_eq_false (show¬(65≤b.toNat∧b.toNat≤68) by omega)];rfl)
  rw [decide_eq_false (show¬(a.array.length:Int)=1 by omega)];exact hj _ (by rw [rP h];rfl)
 unfold gG;rw [U0.2 ⟨x,cM hx,by rw [hp];simp⟩];rfl
def iX(a:Affine):Bool:=decide (a.coefs.length=0)&&decide (a.const=0)
def oD(a:Access):Bool:=decide (a.array=[])&&decide (a.subs.length=0)
theorem aGr(k:Nat):decide ((k:Int)=0)=decide (k=0):=decide_eq_decide.2 (by omega)
theorem E4(n:Nat)(a:Affine):lG n a=some (iX a):=by unfold lG iX;rw [aGr];cases decide (a.coefs.length=0)<;>rfl
theorem U7(n:Nat)(a:Affine):mV n a=some (iX a):=by unfold mV iX;rw [aGr];cases decide (a.coefs.length=0)<;>rfl
theorem E5(n:Nat)(a:Access):gB n a=some (oD a):=by unfold gB oD;rw [aGr];cases decide (a.array=[])<;>rfl
theorem N2(n:Nat)(a:Access):kH n a=some (oD a):=by unfold kH oD;rw [aGr];cases decide (a.array=[])<;>rfl
def fP(e:Expr)(d:Int):Bool:=
 if e.kind=2 then decide (e.num=0)&&(oD e.read&&bH e.index d)
 else if e.kind=3 then decide (e.num=0)&&(iX e.index&&gG e.read d)
 else if e.kind=1 then decide (0≤e.num∧e.num≤99)&&(iX e.index&&oD e.read)
 else decide (e.num=0)&&(iX e.index&&oD e.read)
def eJ(k:Int):Int:=if k=1∨k=2∨k=3 then 0 else if k=4∨k=5∨k=6 then 2 else-1
theorem U8(n:Nat)(k:Int):sW n k=some (eJ k):=by
 unfold sW eJ;by_cases h1:k=1
 ·subst h1;rfl
 by_cases h2:k=2
 ·subst h2;rfl
 by_cases h3:k=3
 ·subst h3;rfl
 by_cases h4:k=4
 ·subst h4;rfl
 by_cases h5:k=5
 ·subst h5;rfl
 by_cases h6:k=6
 ·subst h6;rfl
 simp [jn,h1,h2,h3,h4,h5,h6]
theorem aAH{n:Nat}(hn:5500000≤n){e:Expr}(h1:SmA e.index)(h2:xJ e.read.subs)(d:Int):xN n e d=some (fP e d):=by
 unfold xN fP;rw [N2,U7,iB hn _ h1,rJ hn h1,qY hn h2];by_cases k2:e.kind=2
 ·rw [if_pos k2,decide_eq_true k2];simp only [jn,Option.bind,cond_true,bH];cases decide (e.num=0)<;>cases oD e.read<;>cases eN e.index<;>simp
 rw [if_neg k2,decide_eq_false k2];by_cases k3:e.kind=3
 ·rw [if_pos k3,decide_eq_true k3];simp only [jn,Option.bind,cond_true,cond_false];cases decide (e.num=0)<;>cases iX e.index<;>simp
 rw [if_neg k3,decide_eq_false k3];by_cases k1:e.kind=1
 ·rw [if_pos k1,decide_eq_true k1];simp only [jn,Option.bind,cond_true,cond_false];by_cases g1:0≤e.num<;>by_cases g2:e.num≤99<;>cases iX e.index<;>simp [g1,g2]
 rw [if_neg k1,decide_eq_false k1];simp only [jn,Option.bind,cond_false];cases decide (e.num=0)<;>cases iX e.index<;>simp
end Go.Lift
