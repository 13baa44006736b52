/- Plain facts on sums of products, on ranges, on the points of a nest. -/
import Derived.Test.YtcihigfifglboabGreatELawDraw
set_option maxRecDepth 100000
set_option linter.unusedVariables false
namespace Go.Lift
open Go
def nJ:List Int→List Int→Int
 |c::cs,x::xs=>c*x+nJ cs xs
 |_,_=>0
def nD(m:Int)(x:Int):Prop:= -m≤x∧x≤m
theorem aIv{a b c x:Int}(ha:0≤a)(hb:0≤b)(h1:nD a c)(h2:nD b x):nD (a*b) (c*x):=by
 obtain⟨p1,p2⟩:=h1;obtain⟨q1,q2⟩:=h2;constructor
 ·have h:=vBx (show 0≤a+c by omega) (show 0≤b+x by omega);have k:=vBx (show 0≤a-c by omega) (show 0≤b-x by omega);have e1:(a+c)*(b+x)=a*b+a*x+c*b+c*x:=by rw [Int.add_mul,vBW,vBW];omega
  have e2:(a-c)*(b-x)=a*b-a*x-c*b+c*x:=by rw [Int.sub_mul,vBX,vBX];omega
  rw [e1] at h;rw [e2] at k;omega
 have h:=vBx (show 0≤a+c by omega) (show 0≤b-x by omega);have k:=vBx (show 0≤a-c by omega) (show 0≤b+x by omega);have e1:(a+c)*(b-x)=a*b-a*x+c*b-c*x:=by rw [Int.add_mul,vBX,vBX];omega
 have e2:(a-c)*(b+x)=a*b+a*x-c*b-c*x:=by rw [Int.sub_mul,vBW,vBW];omega
 rw [e1] at h;rw [e2] at k;omega
theorem aD0(cs:List Int):nJ cs []=0:=by cases cs<;>rfl
theorem aFv: ∀{cs xs:List Int} {c x:Int},cs[xs.length]? =some c→nJ cs (xs++[x])=nJ cs xs+c*x
 | [],xs,c,x,h=>by simp at h
 |d::cs,[],c,x,h=>by simp at h;subst h;simp [nJ,aD0]
 |d::cs,y::xs,c,x,h=>by
  have h:cs[xs.length]? =some c:=by simpa using h
  simp only [List.cons_append,nJ];rw [aFv h];omega
theorem aFu{cs xs:List Int}{i:Nat}{c x:Int}(hc:cs[i]? =some c)(hx:xs[i]? =some x):nJ cs (xs.take (i+1))=nJ cs (xs.take i)+c*x:=by have hi:=(cX.1 hx).1;rw [xT,hx];exact aFv (by simpa [Nat.min_eq_left (Nat.le_of_lt hi)] using hc)
theorem aMl{M:Int}(hM:0≤M): ∀{cs xs:List Int},(∀c∈cs,nD 9 c)→(∀x∈xs,nD M x)→nD (9*M*xs.length) (nJ cs xs)
 | [],xs,_,_=>by
  have:0≤9*M*(xs.length:Int):=vBx (by omega) (by omega);simp only [nJ,nD];omega
 |d::cs,[],_,_=>by simp [nJ,nD]
 |d::cs,y::xs,hc,hx=>by
  have h1:=aMl hM (cs:=cs) (xs:=xs) (fun c h=>hc c (by simp [h])) fun x h=>hx x (by simp [h]);have h2:=aIv (by omega) hM (hc d (by simp)) (hx y (by simp));have e:9*M*((y::xs).length:Int)=9*M*(xs.length:Int)+9*M:=by simp [Int.mul_add]
  rw [e];simp only [nJ,nD] at*;omega
def jU(lo hi:Int):List Int:=(List.range (hi-lo).toNat).map (fun(i:Nat)=>lo+(i:Int))
theorem aNF{lo hi v:Int}:v∈jU lo hi↔lo≤v∧v<hi:=by
 simp only [jU,List.mem_map,List.mem_range];constructor
 ·rintro⟨i,hi,rfl⟩;omega
 intro h;exact⟨(v-lo).toNat,by omega,by omega⟩
theorem jK{lo hi:Int}(h:hi≤lo):jU lo hi=[]:=by unfold jU;rw [show(hi-lo).toNat=0 by omega];rfl
theorem pD{lo hi:Int}(h:lo≤hi):jU lo (hi+1)=jU lo hi++[hi]:=by unfold jU;rw [show(hi+1-lo).toNat=(hi-lo).toNat+1 by omega,vBq,vAK];simp;omega
theorem w8{lo v hi:Int}(h1:lo≤v)(h2:v<hi):jU lo hi=jU lo v++v::jU (v+1) hi:=by
 obtain⟨k,hk⟩: ∃k:Nat,hi=v+1+k:=⟨(hi-v-1).toNat,by omega⟩
 subst hk;clear h2;induction k with
 |zero=>
  rw [show v+1+((0:Nat):Int)=v+1 by omega,pD h1,jK (Y3 _)]
 |succ k ih=>
  rw [show v+1+((k+1:Nat):Int)=v+1+(k:Int)+1 by omega,pD (by omega),ih,pD (by omega)];simp
theorem X8{α:Type}{f:α→Option Bool}{p:α→Bool}{l:List α}(hf: ∀x∈l,f x=some (p x)){n:Nat}(hl:l.length<n)(hl2:l.length≤1000000):
  ∃r:Int,aJ (fun again2 (x1:Int)=>bif decide (x1<(l.length:Int)) then(Option.bind (ix l x1) fun x3=>Option.bind (f x3) fun x4=>bif x4 then(some x1) else(again2 (wr (x1+1)))) else(some (-1))) n 0=some r∧decide (0≤r)=l.any p:=by
 suffices h:Ev (aJ (fun again2 (x1:Int)=>bif decide (x1<(l.length:Int)) then(Option.bind (ix l x1) fun x3=>Option.bind (f x3) fun x4=>bif x4 then(some x1) else(again2 (wr (x1+1)))) else(some (-1))) n 0) (fun r=>decide (0≤r)=l.any p) by exact h
 refine Ev.loop (fun x:Int=>0≤x∧x≤l.length∧(l.take x.toNat).any p=false) (fun x:Int=>l.length-x.toNat) ?_ n 0 ⟨by omega,by omega,by simp⟩ (by simp;omega);rintro again x ⟨h0,h1,h2⟩ hr;refine aG (fun hlt=>?_) fun hge=>?_
 ·obtain⟨y,hy,hy2⟩:=jR h0 hlt;have hm:=cR hy2;refine aA hy (aA (hf y hm) (Ev.cond (fun ht=>Ev.some ?_) fun hfl=>?_))
  ·rw [show l.any p=true from vBs.2 ⟨y,hm,ht⟩];simp [h0]
  rw [aN (by omega)];refine hr _ ⟨by omega,by omega,?_⟩ (by omega);rw [show(x+1).toNat=x.toNat+1 by omega,xT,hy2];simp [h2,hfl]
 refine Ev.some ?_;have hx:x.toNat=l.length:=by omega
 rw [hx,pY] at h2;rw [h2];simp
theorem t8{f:Int→Option Bool}{p:Int→Bool}{l:List Int}(hf: ∀x∈l,f x=some (p x)){n:Nat}(hl:l.length<n)(hl2:l.length≤1000000):b9 n l f=some (l.any p):=by obtain⟨r,h1,h2⟩:=X8 hf hl hl2;unfold b9 gT;rw [h1,←h2];rfl
theorem hJ{f:Affine→Option Bool}{p:Affine→Bool}{l:List Affine}(hf: ∀x∈l,f x=some (p x)){n:Nat}(hl:l.length<n)(hl2:l.length≤1000000):bP n l f=some (l.any p):=by obtain⟨r,h1,h2⟩:=X8 hf hl hl2;unfold bP gJ;rw [h1,←h2];rfl
theorem aBV{f:Stmt→Option Bool}{p:Stmt→Bool}{l:List Stmt}(hf: ∀x∈l,f x=some (p x)){n:Nat}(hl:l.length<n)(hl2:l.length≤1000000):fY n l f=some (l.any p):=by obtain⟨r,h1,h2⟩:=X8 hf hl hl2;unfold fY l3;rw [h1,←h2];rfl
theorem T6{f:Access→Option Bool}{p:Access→Bool}{l:List Access}(hf: ∀x∈l,f x=some (p x)){n:Nat}(hl:l.length<n)(hl2:l.length≤1000000):e9 n l f=some (l.any p):=by obtain⟨r,h1,h2⟩:=X8 hf hl hl2;unfold e9 kQ;rw [h1,←h2];rfl
theorem oJ{α:Type}{l:List α}{p:Nat→α→Bool}{Q:Bool→Prop}{body:(Int→Option Bool)→Int→Option Bool}{n:Nat}(hl:l.length<n)(hl2:l.length≤1000000)
  (hstep: ∀again (i:Nat) x,l[i]? =some x→(p i x=true→Ev (again ((i:Int)+1)) Q)→(p i x=false→Q false)→Ev (body again (i:Int)) Q)
  (hend: ∀again,(∀(i:Nat) x,l[i]? =some x→p i x=true)→Ev (body again (l.length:Int)) Q) (hbad:(∃(i:Nat) (x:α),l[i]? =some x∧p i x=false)→Q false):Ev (aJ body n 0) Q:=by
 refine Ev.loop (fun x:Int=> ∃i:Nat,x=i∧i≤l.length∧ ∀(j:Nat) y,j<i→l[j]? =some y→p j y=true) (fun x:Int=>l.length-x.toNat) ?_ n 0 ⟨0,rfl,by omega,fun j y h=>by omega⟩ (by simp;omega);rintro again x ⟨i,rfl,hi,ha⟩ hr;by_cases hlt:i<l.length
 ·have hx:=cP hlt;refine hstep again i _ hx (fun hp=>hr _ ⟨i+1,by omega,by omega,fun j y hj hy=>?_⟩ (by omega)) fun hp=>hbad ⟨i,_,hx,hp⟩;by_cases hji:j=i
  ·subst hji;rw [hx] at hy;cases hy;exact hp
  exact ha j y (by omega) hy
 have hil:i=l.length:=by omega
 subst hil;exact hend again fun j y hy=>ha j y (cX.1 hy).1 hy
def bI(a:Affine):Bool:=decide (a.coefs.length=4)&&(decide (-99≤a.const∧a.const≤99)&&a.coefs.all fun c=>decide (-9≤c∧c≤9))
theorem d6{a:Affine}(h:bI a=true):a.coefs.length=4∧nD 99 a.const∧ ∀c∈a.coefs,nD 9 c:=by simp only [bI,Bool.and_eq_true,decide_eq_true_eq,List.all_eq_true] at h;exact⟨h.1,h.2.1,h.2.2⟩
theorem fD(n:Nat)(x a b:Int):dB n x a b=some (decide (a≤x∧x≤b)):=by unfold dB;by_cases h1:a≤x<;>by_cases h2:x≤b<;>simp [jn,h1,h2]
theorem sP{n:Nat}(hn:5000≤n)(a:Affine)(ha:a.coefs.length≤1000):iG n a=some (bI a):=by
 have hf: ∀x∈a.coefs,gZ n x=some (!decide (-9≤x∧x≤9)):=fun x _=>by unfold gZ;rw [fD];rfl
 have hc:=t8 (n:=n) hf (by omega) (by omega);unfold iG N8;rw [fD];simp only [jn,Option.bind];rw [hc];unfold bI;have e:(a.coefs.any fun x=> !decide (-9≤x∧x≤9))= !(a.coefs.all fun c=>decide (-9≤c∧c≤9)):=by
  rw [vBd];simp
 rw [e];by_cases h1:a.coefs.length=4
 ·rw [decide_eq_true (show(a.coefs.length:Int)=4 by omega),decide_eq_true h1];generalize decide (-99≤a.const∧a.const≤99)=b;cases b<;>simp
 rw [decide_eq_false (show¬(a.coefs.length:Int)=4 by omega),decide_eq_false h1];rfl
theorem u4(n:Nat)(x m:Int)(hm:0≤m∧m≤1000000000):lW n x m=some (decide (-m≤x∧x≤m)):=by
 unfold lW;rw [aN (by omega)];by_cases h1: -m≤x<;>by_cases h2:x≤m
 ·simp [jn,h1,h2]
 ·simp [jn,h1,h2]
 ·simp [jn,h1,h2]
 simp [jn,h1,h2]
theorem lY{n:Nat}(hn:5000≤n)(a:Affine)(ha:a.coefs.length≤1000):fU n a=some (bI a):=by
 refine Ev.eq ?_;unfold fU;refine oJ (l:=a.coefs) (p:=fun _ c=>decide (-9≤c∧c≤9)) (by omega) (by omega) (fun again i x hx hgo hno=>?_) (fun again hall=>?_) (fun⟨i,x,hx,hp⟩=>?_)
 ·rw [decide_eq_true (show(i:Int)<(a.coefs.length:Int) by have:=(cX.1 hx).1;omega)];refine aA (aI hx) (aA (u4 n x 9 (by omega)) ?_);have hi:=(cX.1 hx).1;cases hp:decide (-9≤x∧x≤9) with
  |true=>show Ev (again _) _;rw [aN (by omega)];exact hgo hp
  |false=>exact Ev.some (hno hp)
 ·rw [decide_eq_false (show¬(a.coefs.length:Int)<(a.coefs.length:Int) by omega)];have e:a.coefs.all (fun c=>decide (-9≤c∧c≤9))=true:=vAI.2 fun c hc=>by obtain⟨i,hi⟩:=vAL hc;exact hall i c hi
  refine Ev.cond (fun h=>(by cases h)) fun _=>?_;unfold bI;rw [e];refine Ev.jn (fun z:Bool=>z=(decide (a.coefs.length=4)&&(decide (-99≤a.const∧a.const≤99)&&true))) (fun j hj=>?_) fun z hz=>Ev.some hz;refine aG (fun h=>aA (u4 n a.const 99 (by omega)) (hj _ ?_)) fun h=>hj _ ?_
  ·rw [decide_eq_true (show a.coefs.length=4 by omega)];simp
  rw [decide_eq_false (show¬a.coefs.length=4 by omega)];rfl
 unfold bI;have e:a.coefs.all (fun c=>decide (-9≤c∧c≤9))=false:=vAM.2 ⟨x,cR hx,by rw [hp];simp⟩;rw [e];simp
def cC(a:Affine)(p:List Int):Int:=a.const+nJ a.coefs p
def ptB(M:Int)(p:List Int):Prop:= ∀x∈p,nD M x
theorem xN{a:Affine}(ha:bI a=true){p:List Int}(hp:p.length≤4){M:Int}(hM:0≤M∧M≤1000000000)(hB:ptB M p)(i:Nat)(hi:i≤p.length):nD 1000000000000 (a.const+nJ a.coefs (p.take i)):=by
 obtain⟨h1,h2,h3⟩:=d6 ha;have h4:=aMl (M:=M) hM.1 (cs:=a.coefs) (xs:=p.take i) h3 fun x hx=>hB x (vAF hx);have h5:(p.take i).length≤4:=by simp;omega
 have h6:9*M*((p.take i).length:Int)≤9*M*4:=Int.mul_le_mul_of_nonneg_left (by omega) (by omega);simp only [nD] at*;omega
theorem aJF{n:Nat}(hn:5000≤n){a:Affine}(ha:bI a=true){p:List Int}(hp:p.length≤4){M:Int}(hM:0≤M∧M≤1000000000)(hB:ptB M p):dM n a p=some (cC a p):=by
 obtain⟨h1,h2,h3⟩:=d6 ha;refine Ev.eq ?_;unfold dM;refine Ev.loop (fun x:Int×Int=> ∃i:Nat,x.2=i∧i≤p.length∧x.1=a.const+nJ a.coefs (p.take i)) (fun x=>p.length-x.2.toNat) ?_ n _ ⟨0,rfl,by omega,by simp [aD0]⟩ (by simp;omega);rintro again ⟨x,k⟩ ⟨i,hk,hi,hx⟩ hr;dsimp only at hk hx⊢;subst hk;refine aG (fun hlt=>?_) fun hge=>Ev.some ?_
 ·have hlt:i<p.length:=by omega
  have hp2:=cP hlt;have hc2:=cP (show i<a.coefs.length by omega);have hd:=aFu hc2 hp2;have e1:=xN ha hp hM hB i hi;have e2:=xN ha hp hM hB (i+1) (by omega);rw [hd] at e2;have e3:=aIv (by omega) hM.1 (h3 _ (cR hc2)) (hB _ (cR hp2));refine aA (aI hp2) (aA (aI hc2) ?_);simp only [nD] at e1 e2 e3;rw [aN (n:=a.coefs[i]*p[i]) (by omega),aN (by omega),aN (by omega)];refine hr _ ⟨i+1,by dsimp only;omega,by omega,?_⟩ (by dsimp only;omega);dsimp only;rw [hd,hx];omega
 have:i=p.length:=by omega
 rw [hx,this,pY];rfl
theorem aJh{n:Nat}(hn:5000≤n){a:Affine}(ha:bI a=true){p:List Int}(hp:p.length≤4){M:Int}(hM:0≤M∧M≤1000000000)(hB:ptB M p):jY n a p=some (cC a p):=by
 obtain⟨h1,h2,h3⟩:=d6 ha;refine Ev.eq ?_;unfold jY;refine Ev.loop (fun x:Int×Int=> ∃i:Nat,x.2=i∧i≤p.length∧x.1=a.const+nJ a.coefs (p.take i)) (fun x=>p.length-x.2.toNat) ?_ n _ ⟨0,rfl,by omega,by simp [aD0]⟩ (by simp;omega);rintro again ⟨x,k⟩ ⟨i,hk,hi,hx⟩ hr;dsimp only at hk hx⊢;subst hk;refine Ev.jn (fun z=>z=decide (i<p.length)) (fun j hj=>aG (fun h=>hj _ ?_) fun h=>hj _ ?_) fun z hz=>?_
 ·rw [decide_eq_true (show i<p.length by omega),decide_eq_true (show(i:Int)<(a.coefs.length:Int) by omega)]
 ·rw [decide_eq_false (show¬i<p.length by omega)]
 subst hz;refine aG (fun hlt=>?_) fun hge=>Ev.some ?_
 ·have hp2:=cP hlt;have hc2:=cP (show i<a.coefs.length by omega);have hd:=aFu hc2 hp2;have e1:=xN ha hp hM hB i hi;have e2:=xN ha hp hM hB (i+1) (by omega);rw [hd] at e2;have e3:=aIv (by omega) hM.1 (h3 _ (cR hc2)) (hB _ (cR hp2));refine aA (aI hc2) (aA (aI hp2) ?_);simp only [nD] at e1 e2 e3;rw [aN (n:=a.coefs[i]*p[i]) (by omega),aN (by omega),aN (by omega)];refine hr _ ⟨i+1,by dsimp only;omega,by omega,?_⟩ (by dsimp only;omega);dsimp only;rw [hd,hx];omega
 have:i=p.length:=by omega
 rw [hx,this,pY];rfl
theorem bZ{R:Type}{Q:R→Prop}{A B:Option R}(h:Ev A Q):Ev (bif true then A else B) Q:=h
theorem b7{R:Type}{Q:R→Prop}{A B:Option R}(h:Ev B Q):Ev (bif false then A else B) Q:=h
def dC:List Int→Nat
 | []=>0
 |c::cs=>if dC cs=0 then(if c=0 then 0 else 1) else dC cs+1
theorem R3: ∀(l:List Int) (c:Int),dC (l++[c])=if c=0 then dC l else l.length+1
 | [],c=>by simp [dC]
 |d::l,c=>by
  have ih:=R3 l c;simp only [List.cons_append,dC,ih];by_cases hc:c=0
  ·simp [hc]
  simp [hc]
theorem R2{l:List Int}{i:Nat}{c:Int}(h:l[i]? =some c):dC (l.take (i+1))=if c=0 then dC (l.take i) else i+1:=by have hi:=(cX.1 h).1;rw [xT,h];show dC (l.take i++[c])=_;rw [R3,rQ,Nat.min_eq_left (Nat.le_of_lt hi)]
theorem v7: ∀{l:List Int} {i:Nat} {c:Int},l[i]? =some c→dC l≤i→c=0
 | [],i,c,h,_=>by simp at h
 |d::l,0,c,h,hd=>by
  simp at h;subst h;simp only [dC] at hd;by_cases h1:dC l=0
  ·by_cases h2:d=0
   ·exact h2
   simp [h1,h2] at hd
  simp [h1] at hd
 |d::l,i+1,c,h,hd=>by
  have h:l[i]? =some c:=by simpa using h
  refine v7 h ?_;simp only [dC] at hd;by_cases h1:dC l=0
  ·omega
  rw [if_neg h1] at hd;omega
def SmA(a:Affine):Prop:=a.coefs.length≤1000
def U8(l:List Affine):Prop:=l.length≤1000∧ ∀a∈l,SmA a
theorem yR{n:Nat}(hn:5000≤n){a:Affine}(ha:SmA a):oU n a=some (dC a.coefs:Int):=by
 have ha:a.coefs.length≤1000:=ha;refine Ev.eq ?_;unfold oU;refine Ev.loop (fun x:Int×Int=> ∃i:Nat,x.2=i∧i≤a.coefs.length∧x.1=(dC (a.coefs.take i):Int)) (fun x=>a.coefs.length-x.2.toNat) ?_ n _ ⟨0,rfl,by omega,by simp [dC]⟩ (by simp;omega);rintro again ⟨x,k⟩ ⟨i,hk,hi,hx⟩ hr;dsimp only at hk hx⊢;subst hk;refine aG (fun hlt=>?_) fun hge=>Ev.some ?_
 ·have hlt:i<a.coefs.length:=by omega
  have hc:=cP hlt;have hd:=R2 hc;refine Ev.jn (fun z:Int=>z=(dC (a.coefs.take (i+1)):Int)) (fun j hj=>aA (aI hc) (cZ (fun h0=>hj _ ?_) fun h0=>hj _ ?_)) fun z hz=>?_
  ·rw [hd,if_neg h0,aN (by omega)];omega
  ·rw [hd,if_pos h0,hx]
  rw [aN (by omega)];exact hr _ ⟨i+1,by dsimp only;omega,by omega,hz⟩ (by dsimp only;omega)
 have:i=a.coefs.length:=by omega
 rw [hx,this,pY]
theorem zD{n:Nat}(hn:5000≤n){a:Affine}(ha:SmA a):eX n a=some (dC a.coefs:Int):=by
 have ha:a.coefs.length≤1000:=ha;refine Ev.eq ?_;unfold eX;refine Ev.loop (fun x:Int=> ∃i:Nat,x=i∧i≤a.coefs.length∧dC a.coefs=dC (a.coefs.take i)) (fun x=>x.toNat) ?_ n _ ⟨a.coefs.length,rfl,by omega,by rw [pY]⟩ (by simp;omega);rintro again x ⟨i,rfl,hi,hx⟩ hr;cases i with
 |zero=>
  refine Ev.jn (fun z=>z=false) (fun j hj=>aG (fun h=>absurd h (by decide)) fun h=>hj _ rfl) fun z hz=>?_;subst hz;exact Ev.some (by rw [hx];rfl)
 |succ i=>
  have hlt:i<a.coefs.length:=by omega
  have hc:=cP hlt;have hd:=R2 hc;have e:wr (((i+1:Nat):Int)-1)=(i:Int):=by rw [aN (by omega)];omega
  rw [e];refine Ev.jn (fun z=>z=decide (a.coefs[i]=0)) (fun j hj=>aG (fun h=>aA (aI hc) (hj _ rfl)) fun h=>absurd (show(0:Int)<((i+1:Nat):Int) by omega) h) fun z hz=>?_;subst hz;refine aG (fun h0=>?_) fun h0=>Ev.some ?_
  ·exact hr _ ⟨i,rfl,by omega,by rw [hx,hd,if_pos h0]⟩ (by omega)
  rw [hx,hd,if_neg h0]
def bY(a:Affine)(d:Int):Bool:=bI a&&decide ((dC a.coefs:Int)≤d)
def cW(l:List Affine)(d:Int):Bool:=l.all (fun a=>bY a d)&&decide (1≤l.length∧l.length≤2)
theorem ltd(a b:Int):decide (a<b)= !decide (b≤a):=by
 by_cases h:a<b
 ·rw [decide_eq_true h,decide_eq_false (by omega)];rfl
 rw [decide_eq_false h,decide_eq_true (by omega)];rfl
theorem Q1{n:Nat}(hn:5000≤n){l:List Affine}(hl:U8 l)(d:Int):vD n l d=some (cW l d):=by
 obtain⟨h0,h1⟩:=hl;refine Ev.eq ?_;unfold vD;refine oJ (l:=l) (p:=fun _ a=>bY a d) (by omega) (by omega) (fun again i x hx hgo hno=>?_) (fun again hall=>?_) (fun⟨i,x,hx,hp⟩=>?_)
 ·have hi:=(cX.1 hx).1;have hm:=h1 x (cR hx);rw [decide_eq_true (show(i:Int)<(l.length:Int) by omega)];refine bZ (Ev.jn (fun z=>z= !bY x d) (fun j hj=>aA (aI hx) (aA (lY hn x hm) ?_)) fun z hz=>?_)
  ·cases ha:bI x with
   |false=>exact hj _ (by unfold bY;rw [ha];rfl)
   |true=>exact aA (yR hn hm) (hj _ (by unfold bY;rw [ha,ltd];simp))
  subst hz;cases hb:bY x d with
  |true=>show Ev (again _) _;rw [aN (by omega)];exact hgo hb
  |false=>exact Ev.some (hno hb)
 ·rw [decide_eq_false (show¬(l.length:Int)<(l.length:Int) by omega)];have e:l.all (fun a=>bY a d)=true:=vAI.2 fun c hc=>by obtain⟨i,hi⟩:=vAL hc;exact hall i c hi
  unfold cW;rw [e];refine b7 (Ev.jn (fun z=>z=decide (1≤l.length∧l.length≤2)) (fun j hj=>aG (fun h=>hj _ ?_) fun h=>hj _ ?_) fun z hz=>Ev.some (by rw [hz];rfl))
  ·by_cases h2:l.length≤2
   ·rw [decide_eq_true (show(l.length:Int)≤2 by omega),decide_eq_true (by omega)]
   rw [decide_eq_false (show¬(l.length:Int)≤2 by omega),decide_eq_false (by omega)]
  rw [decide_eq_false (by omega)]
 unfold cW;rw [vAM.2 ⟨x,cR hx,by rw [hp];simp⟩];rfl
theorem aAM{n:Nat}(hn:5000≤n){a:Affine}(ha:SmA a)(d:Int):jN n a d=some (!bY a d):=by
 unfold jN;rw [sP hn a ha];simp only [jn,Option.bind];cases hb:bI a with
 |false=>simp [bY,hb]
 |true=>
  rw [zD hn ha];simp only [bY,hb,Bool.not_true,cond_false,Bool.true_and];rw [ltd]
theorem tV(n k:Nat):dB n (k:Int) 1 2=some (decide (1≤k∧k≤2)):=by
 rw [fD];congr 1;by_cases h:1≤k∧k≤2
 ·rw [decide_eq_true h,decide_eq_true (by omega)]
 rw [decide_eq_false h,decide_eq_false (by omega)]
theorem yF{n:Nat}(hn:5000≤n){l:List Affine}(hl:U8 l)(d:Int):pJ n l d=some (cW l d):=by
 obtain⟨h0,h1⟩:=hl;unfold pJ;rw [tV];have hc:=hJ (n:=n) (f:=fun q0=>jN n q0 d) (p:=fun a=> !bY a d) (l:=l) (fun x hx=>aAM hn (h1 x hx) d) (by omega) (by omega);simp only [jn,Option.bind];rw [hc];unfold cW;have e:(l.any fun a=> !bY a d)= !(l.all fun a=>bY a d):=by
  rw [vBd];simp
 rw [e];cases decide (1≤l.length∧l.length≤2)<;>simp
def aAJ{α:Type}(p:Nat→α→Bool)(l:List α):Bool:=l.zipIdx.all fun q=>p q.2 q.1
theorem qF{α:Type}{p:Nat→α→Bool}{l:List α}(h: ∀(i:Nat) x,l[i]? =some x→p i x=true):aAJ p l=true:=
 vAI.2 fun q hq=>h q.2 q.1 (vBj.1 hq)
theorem nV{α:Type}{p:Nat→α→Bool}{l:List α}{i:Nat}{x:α}(h:l[i]? =some x)(hp:p i x=false):aAJ p l=false:=
 vAM.2 ⟨(x,i),vBj.2 h,by rw [hp];simp⟩
theorem aAI{α:Type}{p:Nat→α→Bool}{l:List α}(h:aAJ p l=true){i:Nat}{x:α}(hx:l[i]? =some x):p i x=true:=
 vAI.1 h (x,i) (vBj.2 hx)
def lB(nest:List Loop):Bool:=aAJ (fun i l=>cW l.lo (i:Int)&&cW l.hi (i:Int)) nest&&decide (nest.length≤4)
def SmN(nest:List Loop):Prop:=nest.length≤1000∧ ∀l∈nest,U8 l.lo∧U8 l.hi
theorem aAO{n:Nat}(hn:5000≤n){nest:List Loop}(h:SmN nest):qK n nest=some (lB nest):=by
 obtain⟨h0,h1⟩:=h;refine Ev.eq ?_;unfold qK;refine oJ (l:=nest) (p:=fun i l=>cW l.lo (i:Int)&&cW l.hi (i:Int)) (by omega) (by omega) (fun again i x hx hgo hno=>?_) (fun again hall=>?_) (fun⟨i,x,hx,hp⟩=>?_)
 ·have hi:=(cX.1 hx).1;obtain⟨m1,m2⟩:=h1 x (cR hx);rw [decide_eq_true (show(i:Int)<(nest.length:Int) by omega)];refine aA (aI hx) (Ev.jn (fun z=>z= !(cW x.lo (i:Int)&&cW x.hi (i:Int))) (fun j hj=>aA (yF hn m1 _) ?_) fun z hz=>?_)
  ·cases ha:cW x.lo (i:Int) with
   |false=>exact hj _ (by rw [ha];rfl)
   |true=>exact aA (yF hn m2 _) (hj _ (by rw [ha];rfl))
  subst hz;cases hb:(cW x.lo (i:Int)&&cW x.hi (i:Int)) with
  |true=>show Ev (again _) _;rw [aN (by omega)];exact hgo hb
  |false=>exact Ev.some (hno hb)
 ·rw [decide_eq_false (show¬(nest.length:Int)<(nest.length:Int) by omega)];refine Ev.some ?_;unfold lB;rw [qF hall,vAZ];exact decide_eq_decide.2 (by omega)
 unfold lB;rw [nV hx hp];rfl
theorem Z9{n:Nat}(hn:5000≤n){nest:List Loop}(h:SmN nest):qC n nest=some (lB nest):=by
 obtain⟨h0,h1⟩:=h;unfold qC;by_cases h4:nest.length≤4
 ·rw [decide_eq_true (show(nest.length:Int)≤4 by omega)];refine Ev.eq ?_;refine oJ (l:=nest) (p:=fun i l=>cW l.lo (i:Int)&&cW l.hi (i:Int)) (by omega) (by omega) (fun again i x hx hgo hno=>?_) (fun again hall=>?_) (fun⟨i,x,hx,hp⟩=>?_)
  ·have hi:=(cX.1 hx).1;obtain⟨m1,m2⟩:=h1 x (cR hx);rw [decide_eq_true (show(i:Int)<(nest.length:Int) by omega)];refine Ev.jn (fun z=>z=true) (fun j hj=>bZ (hj _ rfl)) fun z hz=>?_;subst hz;refine bZ (Ev.jn (fun z=>z= !(cW x.lo (i:Int)&&cW x.hi (i:Int))) (fun j hj=>aA (aI hx) (aA (Q1 hn m1 _) ?_)) fun z hz=>?_)
   ·cases ha:cW x.lo (i:Int) with
    |false=>exact hj _ (by rw [ha];rfl)
    |true=>exact aA (Q1 hn m2 _) (hj _ (by rw [ha];rfl))
   subst hz;cases hb:(cW x.lo (i:Int)&&cW x.hi (i:Int)) with
   |true=>show Ev (again _) _;rw [aN (by omega)];exact hgo hb
   |false=>exact Ev.some (hno hb)
  ·rw [decide_eq_false (show¬(nest.length:Int)<(nest.length:Int) by omega)];refine Ev.jn (fun z=>z=false) (fun j hj=>b7 (hj _ rfl)) fun z hz=>?_;subst hz;refine Ev.some ?_;unfold lB;rw [qF hall,decide_eq_true h4];rfl
  unfold lB;rw [nV hx hp];rfl
 obtain⟨k,rfl⟩: ∃k,n=k+1:=⟨n-1,by omega⟩
 rw [decide_eq_false (show¬(nest.length:Int)≤4 by omega)];unfold lB;rw [decide_eq_false h4,vBm];simp only [aJ,jn];cases decide ((0:Int)<(nest.length:Int))<;>rfl
def mx:List Int→Int
 | []=>0
 |x::xs=>xs.foldl max x
def mn:List Int→Int
 | []=>0
 |x::xs=>xs.foldl min x
theorem aNT{l:List Int}(h:l≠[])(x:Int):mx (l++[x])=max (mx l) x:=by
 cases l with
 |nil=>exact absurd rfl h
 |cons a l=>simp [mx,List.foldl_append]
theorem aNV{l:List Int}(h:l≠[])(x:Int):mn (l++[x])=min (mn l) x:=by
 cases l with
 |nil=>exact absurd rfl h
 |cons a l=>simp [mn,List.foldl_append]
theorem aOJ: ∀(l:List Int) (a:Int),a≤l.foldl max a
 | [],a=>Y3 _
 |x::l,a=>Int.le_trans (Int.le_max_left a x) (aOJ l (max a x))
theorem aOK: ∀(l:List Int) (a:Int),l.foldl min a≤a
 | [],a=>Y3 _
 |x::l,a=>Int.le_trans (aOK l (min a x)) (Int.min_le_left a x)
def evs(l:List Affine)(p:List Int):List Int:=l.map fun a=>cC a p
def jF(l:Loop)(p:List Int):Int:=mx (evs l.lo p)
def mB(l:Loop)(p:List Int):Int:=mn (evs l.hi p)
def rO(k:Nat)(p:List Int):Prop:=p.length=k∧k≤4∧ptB (100*40^k) p
theorem aAi{k:Nat}(h:k≤4):(0:Int)≤100*40^k∧(100:Int)*40^k≤1000000000:=by
 match k,h with
 |0,_=>decide
 |1,_=>decide
 |2,_=>decide
 |3,_=>decide
 |4,_=>decide
theorem uZ{l:List Affine}{d:Int}(h:cW l d=true):1≤l.length∧l.length≤2∧ ∀a∈l,bI a=true:=by
 simp only [cW,Bool.and_eq_true,decide_eq_true_eq,List.all_eq_true] at h;refine⟨h.2.1,h.2.2,fun a ha=>?_⟩
 have:=h.1 a ha;simp only [bY,Bool.and_eq_true] at this;exact this.1
theorem aLM{a:Affine}(ha:bI a=true){k:Nat}{p:List Int}(hp:rO k p)(hk:k≤3): -(40*(100*40^k))≤cC a p∧cC a p≤40*(100*40^k):=by
 obtain⟨h1,h2,h3⟩:=d6 ha;obtain⟨p1,p2,p3⟩:=hp;obtain⟨q1,q2⟩:=aAi (k:=k) (by omega);have hq:(100:Int)≤100*40^k:=by
  match k,hk with
  |0,_=>decide
  |1,_=>decide
  |2,_=>decide
  |3,_=>decide
 generalize (100*40^k:Int)=M at*;have h4:=aMl (M:=M) q1 (cs:=a.coefs) (xs:=p) h3 fun x hx=>p3 x hx;have h6:9*M*(p.length:Int)≤9*M*3:=Int.mul_le_mul_of_nonneg_left (by omega) (by omega);simp only [nD] at*;unfold cC;omega
theorem aKR{n:Nat}(hn:5000≤n){a:Affine}(ha:bI a=true){k:Nat}{p:List Int}(hp:rO k p):jY n a p=some (cC a p):=
 aJh hn ha (by have:=hp.1;have:=hp.2.1;omega) (aAi hp.2.1) hp.2.2
theorem aLA{n:Nat}(hn:5000≤n){a:Affine}(ha:bI a=true){k:Nat}{p:List Int}(hp:rO k p):dM n a p=some (cC a p):=
 aJF hn ha (by have:=hp.1;have:=hp.2.1;omega) (aAi hp.2.1) hp.2.2
theorem mU{l:List Affine}{p:List Int}{i:Nat}{a:Affine}(h:l[i]? =some a):(evs l p)[i]? =some (cC a p):=by unfold evs;rw [List.getElem?_map,h];rfl
theorem X4(l:List Affine)(p:List Int):(evs l p).length=l.length:=o7 ..
theorem aIh{α:Type}{l:List α}{i:Nat}(h:1≤i)(hl:1≤l.length):l.take i≠[]:=by
 intro e
 have:(l.take i).length=0:=by rw [e];rfl
 rw [rQ] at this;omega
theorem aIu{l:List Int}{i:Nat}{x:Int}(h:l[i]? =some x)(hi:1≤i):mx (l.take (i+1))=max (mx (l.take i)) x:=by have:=(cX.1 h).1;rw [xT,h];exact aNT (aIh hi (by omega)) x
theorem aIx{l:List Int}{i:Nat}{x:Int}(h:l[i]? =some x)(hi:1≤i):mn (l.take (i+1))=min (mn (l.take i)) x:=by have:=(cX.1 h).1;rw [xT,h];exact aNV (aIh hi (by omega)) x
theorem aGT{l:List Int}{x:Int}(h:l[0]? =some x):mx (l.take 1)=x:=by
 cases l with
 |nil=>simp at h
 |cons a l=>simp at h;subst h;rfl
theorem aGU{l:List Int}{x:Int}(h:l[0]? =some x):mn (l.take 1)=x:=by
 cases l with
 |nil=>simp at h
 |cons a l=>simp at h;subst h;rfl
theorem Z5{n:Nat}(hn:5000≤n){l:Loop}{d d':Int}(h1:cW l.lo d=true)(h2:cW l.hi d'=true){k:Nat}{p:List Int}(hp:rO k p):sE n l p=some (jF l p,mB l p):=by
 obtain⟨a1,a2,a3⟩:=uZ h1;obtain⟨b1,b2,b3⟩:=uZ h2;have g1:=cP (show 0<l.lo.length by omega);have g2:=cP (show 0<l.hi.length by omega);refine Ev.eq ?_;unfold sE;refine aA (aI (i:=0) g1) (aA (aKR hn (a3 _ (cR g1)) hp) (aA (aI (i:=0) g2) (aA (aKR hn (b3 _ (cR g2)) hp) ?_)));refine Ev.loop (fun x:Int×Int=> ∃i:Nat,x.2=i∧1≤i∧i≤l.lo.length∧x.1=mx ((evs l.lo p).take i)) (fun x=>l.lo.length-x.2.toNat) ?_ n _ ⟨1,rfl,by omega,by omega,(aGT (mU g1)).symm⟩ (by dsimp only;omega);rintro again ⟨x,z⟩ ⟨i,hz,hi1,hi,hx⟩ hr;dsimp only at hz hx⊢;subst hz;refine aG (fun hlt=>?_) fun hge=>?_
 ·have g:=cP (show i<l.lo.length by omega);have e:=aIu (mU (p:=p) g) hi1;refine Ev.jn (fun z=>z=mx ((evs l.lo p).take (i+1))) (fun j hj=>aA (aI g) (aA (aKR hn (a3 _ (cR g)) hp) (aG (fun h=>hj _ ?_) fun h=>hj _ ?_))) fun z hz=>?_
  ·rw [e,←hx];omega
  ·rw [e,←hx];omega
  rw [aN (by omega)];exact hr _ ⟨i+1,by dsimp only;omega,by omega,by omega,hz⟩ (by dsimp only;omega)
 have hie:i=l.lo.length:=by omega
 have hx':x=jF l p:=by rw [hx,hie,←X4 l.lo p,pY];rfl
 refine Ev.loop (fun x:Int×Int=> ∃i:Nat,x.2=i∧1≤i∧i≤l.hi.length∧x.1=mn ((evs l.hi p).take i)) (fun x=>l.hi.length-x.2.toNat) ?_ n _ ⟨1,rfl,by omega,by omega,(aGU (mU g2)).symm⟩ (by dsimp only;omega);rintro again2 ⟨y,z⟩ ⟨i,hz,hi1,hi,hy⟩ hr2;dsimp only at hz hy⊢;subst hz;refine aG (fun hlt=>?_) fun hge=>Ev.some ?_
 ·have g:=cP (show i<l.hi.length by omega);have e:=aIx (mU (p:=p) g) hi1;refine Ev.jn (fun z=>z=mn ((evs l.hi p).take (i+1))) (fun j hj=>aA (aI g) (aA (aKR hn (b3 _ (cR g)) hp) (aG (fun h=>hj _ ?_) fun h=>hj _ ?_))) fun z hz=>?_
  ·rw [e,←hy];omega
  ·rw [e,←hy];omega
  rw [aN (by omega)];exact hr2 _ ⟨i+1,by dsimp only;omega,by omega,by omega,hz⟩ (by dsimp only;omega)
 have hie:i=l.hi.length:=by omega
 rw [hx',hy,hie,←X4 l.hi p,pY];rfl
theorem aJB{n:Nat}(hn:5000≤n){l:Loop}{d d':Int}(h1:cW l.lo d=true)(h2:cW l.hi d'=true){k:Nat}{p:List Int}(hp:rO k p):qM n l p=some (jF l p,mB l p):=by
 obtain⟨a1,a2,a3⟩:=uZ h1;obtain⟨b1,b2,b3⟩:=uZ h2;have g1:=cP (show 0<l.lo.length by omega);have g2:=cP (show 0<l.hi.length by omega);refine Ev.eq ?_;unfold qM;refine aA (aI (i:=0) g1) (aA (aLA hn (a3 _ (cR g1)) hp) (aA (aI (i:=0) g2) (aA (aLA hn (b3 _ (cR g2)) hp) ?_)));refine Ev.loop (fun x:Int×Int=> ∃i:Nat,x.2=i∧i≤l.lo.length∧x.1=mx ((evs l.lo p).take (max i 1))) (fun x=>l.lo.length-x.2.toNat) ?_ n _ ⟨0,rfl,by omega,(aGT (mU g1)).symm⟩ (by dsimp only;omega);rintro again ⟨x,z⟩ ⟨i,hz,hi,hx⟩ hr;dsimp only at hz hx⊢;subst hz;refine aG (fun hlt=>?_) fun hge=>?_
 ·have g:=cP (show i<l.lo.length by omega);refine aA (aI g) (aA (aLA hn (a3 _ (cR g)) hp) ?_);rw [aN (by omega)];refine hr _ ⟨i+1,by dsimp only;omega,by omega,?_⟩ (by dsimp only;omega);dsimp only;rw [show max (i+1) 1=i+1 by omega];cases i with
  |zero=>rw [hx,show max 0 1=1 by rfl,nA,aGT (mU g)];omega
  |succ i=>rw [aIu (mU (p:=p) g) (by omega),hx,show max (i+1) 1=i+1 by omega]
 have hie:i=l.lo.length:=by omega
 have hx':x=jF l p:=by rw [hx,hie,Nat.max_eq_left (by omega),←X4 l.lo p,pY];rfl
 refine Ev.loop (fun x:Int×Int=> ∃i:Nat,x.2=i∧i≤l.hi.length∧x.1=mn ((evs l.hi p).take (max i 1))) (fun x=>l.hi.length-x.2.toNat) ?_ n _ ⟨0,rfl,by omega,(aGU (mU g2)).symm⟩ (by dsimp only;omega);rintro again2 ⟨y,z⟩ ⟨i,hz,hi,hy⟩ hr2;dsimp only at hz hy⊢;subst hz;refine aG (fun hlt=>?_) fun hge=>Ev.some ?_
 ·have g:=cP (show i<l.hi.length by omega);refine aA (aI g) (aA (aLA hn (b3 _ (cR g)) hp) ?_);rw [aN (by omega)];refine hr2 _ ⟨i+1,by dsimp only;omega,by omega,?_⟩ (by dsimp only;omega);dsimp only;rw [show max (i+1) 1=i+1 by omega];cases i with
  |zero=>rw [hy,show max 0 1=1 by rfl,nA,aGU (mU g)];omega
  |succ i=>rw [aIx (mU (p:=p) g) (by omega),hy,show max (i+1) 1=i+1 by omega]
 have hie:i=l.hi.length:=by omega
 rw [hx',hy,hie,Nat.max_eq_left (by omega),←X4 l.hi p,pY];rfl
theorem W5{l:Loop}{d d':Int}(h1:cW l.lo d=true)(h2:cW l.hi d'=true){k:Nat}{p:List Int}(hp:rO k p)(hk:k≤3){v:Int}(hv:jF l p≤v∧v<mB l p):rO (k+1) (p++[v]):=by
 obtain⟨a1,a2,a3⟩:=uZ h1;obtain⟨b1,b2,b3⟩:=uZ h2;have e1: -(40*(100*40^k))≤jF l p:=by
  cases hl:l.lo with
  |nil=>rw [hl] at a1;simp at a1
  |cons a as=>
   have:=(aLM (a3 a (by rw [hl];simp)) hp hk).1;unfold jF evs;rw [hl];exact Int.le_trans this (aOJ _ _)
 have e2:mB l p≤40*(100*40^k):=by
  cases hl:l.hi with
  |nil=>rw [hl] at b1;simp at b1
  |cons a as=>
   have:=(aLM (b3 a (by rw [hl];simp)) hp hk).2;unfold mB evs;rw [hl];exact Int.le_trans (aOK _ _) this
 obtain⟨p1,p2,p3⟩:=hp;have e3:(100*40^(k+1):Int)=40*(100*40^k):=by rw [Int.pow_succ];omega
 have q:=(aAi (k:=k) (by omega)).1;refine⟨by simp [p1],by omega,fun x hx=>?_⟩;rw [e3];rcases wV.1 hx with h|h
 ·have:=p3 x h;simp only [nD] at this⊢;omega
 simp at h;subst h;simp only [nD];omega
def pts:List Loop→List Int→List (List Int)
 | [],p=>[p]
 |l::ls,p=>(jU (jF l p) (mB l p)).flatMap fun v=>pts ls (p++[v])
def wk:List Loop→List Int→Int
 | [],_=>1
 |l::ls,p=>1+((jU (jF l p) (mB l p)).map fun v=>wk ls (p++[v])).sum
theorem o8{α:Type}(f:α→Int): ∀(l:List α),(∀x∈l,1≤f x)→(l.length:Int)≤(l.map f).sum
 | [],_=>by simp
 |x::l,h=>by have h1:=o8 f l fun y hy=>h y (by simp [hy]);have h2:=h x (by simp);simp only [List.map_cons,List.sum_cons,List.length_cons];omega
theorem aDe: ∀(ls:List Loop) (p:List Int),1≤wk ls p
 | [],p=>Y3 _
 |l::ls,p=>by have:=o8 (fun v=>wk ls (p++[v])) (jU (jF l p) (mB l p)) fun v _=>aDe ls _;simp only [wk];omega
def Fit(nest:List Loop):Prop:=nest.length≤4∧ ∀(i:Nat) l,nest[i]? =some l→cW l.lo (i:Int)=true∧cW l.hi (i:Int)=true
theorem aDO{nest:List Loop}(h:lB nest=true):Fit nest:=by
 simp only [lB,Bool.and_eq_true,decide_eq_true_eq] at h;refine⟨h.2,fun i l hl=>?_⟩
 have:=aAI h.1 hl;simpa [Bool.and_eq_true] using this
theorem xO{nest:List Loop}{k:Nat}{l:Loop}{ls:List Loop}(h:nest.drop k=l::ls):nest[k]? =some l∧nest.drop (k+1)=ls∧k<nest.length:=by
 have h1:(nest.drop k)[0]? =some l:=by rw [h];rfl
 rw [vAG,vBA] at h1;refine⟨h1,?_,(cX.1 h1).1⟩
 have:(nest.drop k).drop 1=ls:=by rw [h];rfl
 rwa [List.drop_drop] at this
theorem H8{nest:List Loop}{k:Nat}(h:nest.drop k=[])(hk:k≤nest.length):k=nest.length:=by
 have:(nest.drop k).length=0:=by rw [h];rfl
 rw [vAU] at this;omega
theorem eH(p:List Int)(h:p.length≤1000):app [] p=some p:=by rw [bJ (by simp;omega)];rfl
theorem aEK(l:List Int)(f:Int→Int)(v:Int):((l++[v]).map f).sum=(l.map f).sum+f v:=by simp
theorem aNG{lo v:Int}(h:lo≤v):((jU lo v).length:Int)=v-lo:=by unfold jU;simp;omega
theorem aCd{nest:List Loop}(hf:Fit nest): ∀(ls:List Loop) (n k:Nat) (p:List Int) (most:Int),5000+ls.length≤n→nest.drop k=ls→k≤nest.length→rO k p→0≤most→most≤1200→
  Ev (s_l2Work n nest p most) (fun r=>(wk ls p≤most→r=wk ls p)∧(most<wk ls p→most<r)∧1≤r∧r≤most+1)
 | [],n,k,p,most,hn,hd,hk,hp,h0,h1=>by
  obtain⟨n,rfl⟩: ∃j,n=j+1:=⟨n-1,by omega⟩
  have hk':=H8 hd hk;have hpl:=hp.1;unfold s_l2Work;rw [decide_eq_true (show(p.length:Int)=(nest.length:Int) by omega)];exact Ev.some ⟨fun _=>rfl,fun h=>by simp only [wk] at h;omega,by omega,by omega⟩
 |l::ls,n,k,p,most,hn,hd,hk,hp,h0,h1=>by
  obtain⟨n,rfl⟩: ∃j,n=j+1:=⟨n-1,by omega⟩
  obtain⟨d1,d2,d3⟩:=xO hd;obtain⟨s1,s2⟩:=hf.2 k l d1;have hpl:=hp.1;have hk3:k≤3:=by have:=hf.1;omega
  simp only [List.length_cons] at hn;unfold s_l2Work;rw [decide_eq_false (show¬(p.length:Int)=(nest.length:Int) by omega)];refine b7 (aA (x:=l) (by rw [hpl];exact aI d1) (aA (Z5 (by omega) s1 s2 hp) ?_));let f:Int→Int:=fun v=>wk ls (p++[v]);have hfp: ∀v,1≤f v:=fun v=>aDe _ _;have hW:wk (l::ls) p=1+((jU (jF l p) (mB l p)).map f).sum:=rfl;refine Ev.loop (fun x:Int×Int=>jF l p≤x.2∧(x.2≤mB l p∨x.2=jF l p)∧(1+((jU (jF l p) x.2).map f).sum≤most→x.1=1+((jU (jF l p) x.2).map f).sum)∧(most<1+((jU (jF l p) x.2).map f).sum→most<x.1)∧1≤x.1∧x.1≤most+1)
   (fun x=>(most+1-x.1).toNat) ?_ n _ ⟨Y3 _,.inr rfl,fun _=>by rw [jK (Y3 _)];rfl,fun h=>by rw [jK (Y3 _)] at h;simp at h;dsimp only;omega,by dsimp only;omega,by dsimp only;omega⟩ (by dsimp only;omega)
  rintro again ⟨x,v⟩ ⟨i1,i2,i3,i4,i5,i6⟩ hr;dsimp only at i1 i2 i3 i4 i5 i6⊢;refine Ev.jn (fun z=>z=decide (v<mB l p∧x≤most)) (fun j hj=>aG (fun h=>hj _ ?_) fun h=>hj _ ?_) fun z hz=>?_
  ·by_cases hx:x≤most
   ·rw [decide_eq_true hx,decide_eq_true ⟨h,hx⟩]
   rw [decide_eq_false hx,decide_eq_false fun h=>hx h.2]
  ·rw [decide_eq_false fun h'=>h h'.1]
  subst hz;refine aG (fun⟨hv,hx⟩=>?_) fun hno=>Ev.some ?_
  ·have hsum:x=1+((jU (jF l p) v).map f).sum:=i3 (by apply Int.not_lt.1;intro h;have:=i4 h;omega);have hp':=W5 s1 s2 hp hk3 ⟨i1,hv⟩;have e1:wr (most-x)=most-x:=by rw [aN (by omega)]
   rw [e1];refine aA (eH p (by omega)) (aA (bJ (by simp;omega)) (aK (aCd hf ls n (k+1) (p++[v]) (most-x) (by omega) d2 (by omega) hp' (by omega) (by omega)) fun r ⟨r1,r2,r3,r4⟩=>?_));have hvb:v<mB l p:=hv;have hvr: -1000000000≤v∧v≤1000000000:=by
    have h9:=hp'.2.2 v (by simp);have h8:=aAi hp'.2.1;simp only [nD] at h9;omega
   rw [aN (n:=v+1) (by omega),aN (n:=x+r) (by omega)];have hs:1+((jU (jF l p) (v+1)).map f).sum=x+f v:=by rw [pD i1,aEK,hsum];omega
   refine hr _ ⟨by dsimp only;omega,.inl (by dsimp only;omega),?_,?_,by dsimp only;omega,by dsimp only;omega⟩ (by dsimp only;omega)
   ·dsimp only;rw [hs];intro h
    have:r=f v:=r1 (show f v≤most-x by omega);omega
   dsimp only;rw [hs];intro h
   have:most-x<r:=r2 (show most-x<f v by omega);omega
  have hmono:1+((jU (jF l p) v).map f).sum≤wk (l::ls) p∧(mB l p≤v→1+((jU (jF l p) v).map f).sum=wk (l::ls) p):=by
   rw [hW];by_cases h:v<mB l p
   ·refine⟨?_,fun h'=>by omega⟩;rw [w8 i1 h,vAK,List.sum_append,vBV,List.sum_cons]
    have:=o8 f (jU (v+1) (mB l p)) fun y _=>hfp y
    have:=hfp v;omega
   have:jU (jF l p) v=jU (jF l p) (mB l p):=by
    rcases i2 with h2|h2
    ·rw [show v=mB l p by omega]
    subst h2;rw [jK (Y3 _),jK (by omega)]
   rw [this];exact⟨Y3 _,fun _=>rfl⟩
  refine⟨fun h=>?_,fun h=>?_,i5,i6⟩
  ·have hx:=i3 (by omega);rw [hx];apply hmono.2;apply Int.not_lt.1;intro hv;exact hno ⟨hv,by omega⟩
  apply Int.not_le.1;intro hx;have hv:mB l p≤v:=by apply Int.not_lt.1;intro hv;exact hno ⟨hv,hx⟩
  have:=i4 (by rw [hmono.2 hv];exact h);omega
theorem u5{nest:List Loop}(hf:Fit nest): ∀(ls:List Loop) (n k:Nat) (p:List Int) (out:List (List Int)),5000+ls.length≤n→nest.drop k=ls→k≤nest.length→rO k p→wk ls p≤1200→out.length≤120→
  Ev (s_l2Points n out nest p) (fun r=>(out.length+(pts ls p).length≤120→r=out++pts ls p)∧(120<out.length+(pts ls p).length→120<r.length))
 | [],n,k,p,out,hn,hd,hk,hp,h0,h1=>by
  obtain⟨n,rfl⟩: ∃j,n=j+1:=⟨n-1,by omega⟩
  have hk':=H8 hd hk;have hpl:=hp.1;have hf1:=hf.1;unfold s_l2Points;rw [decide_eq_true (show(p.length:Int)=(nest.length:Int) by omega)];refine bZ (aA (eH p (by omega)) (aA (bJ (by simp;omega)) (Ev.some ⟨fun _=>rfl,fun h=>by simp [pts] at h ⊢; omega⟩)))
 |l::ls,n,k,p,out,hn,hd,hk,hp,h0,h1=>by
  obtain⟨n,rfl⟩: ∃j,n=j+1:=⟨n-1,by omega⟩
  obtain⟨d1,d2,d3⟩:=xO hd;obtain⟨s1,s2⟩:=hf.2 k l d1;have hpl:=hp.1;have hf1:=hf.1;have hk3:k≤3:=by omega
  simp only [List.length_cons] at hn;unfold s_l2Points;rw [decide_eq_false (show¬(p.length:Int)=(nest.length:Int) by omega)];refine b7 (aA (x:=l) (by rw [hpl];exact aI d1) (aA (Z5 (by omega) s1 s2 hp) ?_));let f:Int→Int:=fun v=>wk ls (p++[v]);have hfp: ∀v,1≤f v:=fun v=>aDe _ _;have hW:wk (l::ls) p=1+((jU (jF l p) (mB l p)).map f).sum:=rfl;let g:Int→List (List Int):=fun v=>pts ls (p++[v]);have hP:pts (l::ls) p=(jU (jF l p) (mB l p)).flatMap g:=rfl;have hlen:jF l p≤mB l p→mB l p-jF l p≤1199:=fun hle=>by
   have:=o8 f (jU (jF l p) (mB l p)) fun y _=>hfp y
   have:=aNG hle;omega
  refine Ev.loop (fun x:List (List Int)×Int=>jF l p≤x.2∧(x.2≤mB l p∨x.2=jF l p)∧(out.length+((jU (jF l p) x.2).flatMap g).length≤120→x.1=out++(jU (jF l p) x.2).flatMap g)∧(120<out.length+((jU (jF l p) x.2).flatMap g).length→120<x.1.length))
   (fun x=>(mB l p-x.2).toNat) ?_ n _ ⟨Y3 _,.inr rfl,fun _=>by rw [jK (Y3 _)];simp,fun h=>by rw [jK (Y3 _)] at h;simp at h;omega⟩ (by dsimp only;omega)
  rintro again ⟨x,v⟩ ⟨i1,i2,i3,i4⟩ hr;dsimp only at i1 i2 i3 i4⊢;refine Ev.jn (fun z=>z=decide (v<mB l p∧x.length≤120)) (fun j hj=>aG (fun h=>hj _ ?_) fun h=>hj _ ?_) fun z hz=>?_
  ·by_cases hx:x.length≤120
   ·rw [decide_eq_true (show(x.length:Int)≤120 by omega),decide_eq_true ⟨h,hx⟩]
   rw [decide_eq_false (show¬(x.length:Int)≤120 by omega),decide_eq_false fun h=>hx h.2]
  ·rw [decide_eq_false fun h'=>h h'.1]
  subst hz;refine aG (fun⟨hv,hx⟩=>?_) fun hno=>Ev.some ?_
  ·have hxe:x=out++(jU (jF l p) v).flatMap g:=i3 (by apply Nat.not_lt.1;intro h;have:=i4 h;omega);have hp':=W5 s1 s2 hp hk3 ⟨i1,hv⟩;have hwc:f v≤1200:=by
    rw [hW,w8 i1 hv,vAK,List.sum_append,vBV,List.sum_cons] at h0
    have:=o8 f (jU (v+1) (mB l p)) fun y _=>hfp y
    have:=o8 f (jU (jF l p) v) fun y _=>hfp y;omega
   refine aA (eH p (by omega)) (aA (bJ (by simp;omega)) (aK (u5 hf ls n (k+1) (p++[v]) x (by omega) d2 (by omega) hp' hwc hx) fun r ⟨r1,r2⟩=>?_));have hvr: -1000000000≤v∧v≤1000000000:=by
    have h9:=hp'.2.2 v (by simp);have h8:=aAi hp'.2.1;simp only [nD] at h9;omega
   rw [aN (n:=v+1) (by omega)];have hs:(jU (jF l p) (v+1)).flatMap g=(jU (jF l p) v).flatMap g++g v:=by rw [pD i1,vBa];simp
   refine hr _ ⟨by dsimp only;omega,.inl (by dsimp only;omega),?_,?_⟩ (by dsimp only;omega)
   ·dsimp only;rw [hs];intro h;simp only [List.length_append] at h;have hl:x.length=out.length+((jU (jF l p) v).flatMap g).length:=by rw [hxe,pV]
    rw [r1 (show x.length+(g v).length≤120 by omega),hxe,vAR]
   dsimp only;rw [hs];intro h;simp only [List.length_append] at h;have hl:x.length=out.length+((jU (jF l p) v).flatMap g).length:=by rw [hxe,pV]
   exact r2 (show 120<x.length+(g v).length by omega)
  have hmono:((jU (jF l p) v).flatMap g).length≤(pts (l::ls) p).length∧(mB l p≤v→(jU (jF l p) v).flatMap g=pts (l::ls) p):=by
   rw [hP];by_cases h:v<mB l p
   ·refine⟨?_,fun h'=>by omega⟩;rw [w8 i1 h,vBa,pV];omega
   have:jU (jF l p) v=jU (jF l p) (mB l p):=by
    rcases i2 with h2|h2
    ·rw [show v=mB l p by omega]
    subst h2;rw [jK (Y3 _),jK (by omega)]
   rw [this];exact⟨kH _,fun _=>rfl⟩
  refine⟨fun h=>?_,fun h=>?_⟩
  ·have hx:=i3 (by omega);rw [hx,hmono.2];apply Int.not_lt.1;intro hv;exact hno ⟨hv,by rw [hx,pV];omega⟩
  apply Nat.not_le.1;intro hx;have hv:mB l p≤v:=by apply Int.not_lt.1;intro hv;exact hno ⟨hv,hx⟩
  have:=i4 (by rw [hmono.2 hv];exact h);omega
theorem aCI{nest:List Loop}(hf:Fit nest): ∀(ls:List Loop) (n k:Nat) (p:List Int) (st:Int) (out:List (List Int)),5000+ls.length≤n→nest.drop k=ls→k≤nest.length→rO k p→0≤st→st≤1199→out.length≤120→
  Ev (i_walking_walk n ⟨nest,st,out⟩ p) (fun r=>(st+wk ls p≤1200∧out.length+(pts ls p).length≤120→r=(true,⟨nest,st+wk ls p-1,out++pts ls p⟩))∧(¬(st+wk ls p≤1200∧out.length+(pts ls p).length≤120)→r.1=false))
 | [],n,k,p,st,out,hn,hd,hk,hp,h0,h1,h2=>by
  obtain⟨n,rfl⟩: ∃j,n=j+1:=⟨n-1,by omega⟩
  have hk':=H8 hd hk;have hpl:=hp.1;have hf1:=hf.1;unfold i_walking_walk;dsimp only;rw [decide_eq_true (show(p.length:Int)=(nest.length:Int) by omega)];have hc:m_ownClone p=some p:=by unfold m_ownClone;rw [if_pos (by omega)]
  refine bZ (aA hc (aA (bJ (by simp;omega)) (Ev.some ⟨fun h=>?_,fun h=>?_⟩)))
  ·simp only [wk,pts,List.length_singleton] at h⊢;rw [decide_eq_true (by simp;omega),show st+1-1=st by omega]
  simp only [wk,pts,List.length_singleton] at h⊢;exact decide_eq_false (by simp;omega)
 |l::ls,n,k,p,st,out,hn,hd,hk,hp,h0,h1,h2=>by
  obtain⟨n,rfl⟩: ∃j,n=j+1:=⟨n-1,by omega⟩
  obtain⟨d1,d2,d3⟩:=xO hd;obtain⟨s1,s2⟩:=hf.2 k l d1;have hpl:=hp.1;have hf1:=hf.1;have hk3:k≤3:=by omega
  simp only [List.length_cons] at hn;unfold i_walking_walk;dsimp only;rw [decide_eq_false (show¬(p.length:Int)=(nest.length:Int) by omega)];refine b7 (aA (x:=l) (by rw [hpl];exact aI d1) (aA (aJB (by omega) s1 s2 hp) ?_));let f:Int→Int:=fun v=>wk ls (p++[v]);have hfp: ∀v,1≤f v:=fun v=>aDe _ _;have hW:wk (l::ls) p=1+((jU (jF l p) (mB l p)).map f).sum:=rfl;let g:Int→List (List Int):=fun v=>pts ls (p++[v]);have hP:pts (l::ls) p=(jU (jF l p) (mB l p)).flatMap g:=rfl;refine Ev.loop (fun x:List Loop×Int×List (List Int)×Int=>x.1=nest∧jF l p≤x.2.2.2∧(x.2.2.2≤mB l p∨x.2.2.2=jF l p)∧x.2.1=st+((jU (jF l p) x.2.2.2).map f).sum∧x.2.2.1=out++(jU (jF l p) x.2.2.2).flatMap g∧0≤x.2.1∧x.2.1≤1199∧x.2.2.1.length≤120)
   (fun x=>(1200-x.2.1).toNat) ?_ n _ ⟨rfl,Y3 _,.inr rfl,by dsimp only;rw [jK (Y3 _)];simp,by dsimp only;rw [jK (Y3 _)];simp,h0,h1,h2⟩ (by dsimp only;omega)
  rintro again ⟨nst,x,o,v⟩ ⟨i0,i1,i2,i3,i4,i5,i6,i7⟩ hr;dsimp only at i0 i1 i2 i3 i4 i5 i6 i7⊢;subst i0;have hol:o.length=out.length+((jU (jF l p) v).flatMap g).length:=by rw [i4,pV]
  refine aG (fun hv=>?_) fun hv=>Ev.some ?_
  ·have hp':=W5 s1 s2 hp hk3 ⟨i1,hv⟩;have hrest:wk (l::ls) p≥1+((jU (jF l p) v).map f).sum+f v∧(pts (l::ls) p).length≥((jU (jF l p) v).flatMap g).length+(g v).length:=by
    rw [hW,hP,w8 i1 hv,vAK,List.sum_append,vBV,List.sum_cons,vBa,pV,vBI,pV]
    have:=o8 f (jU (v+1) (mB l p)) fun y _=>hfp y;constructor
    ·omega
    omega
   have hvr: -1000000000≤v∧v≤1000000000:=by
    have h9:=hp'.2.2 v (by simp);have h8:=aAi hp'.2.1;simp only [nD] at h9;omega
   have e1:wr (x+1)=x+1:=by rw [aN (by omega)]
   have e2:wr (x+1+1)=x+1+1:=by rw [aN (by omega)]
   have e3:wr (v+1)=v+1:=by rw [aN (by omega)]
   rw [e1,e2,e3];refine Ev.jn (fun z:List Loop×Int×List (List Int)×Bool=>(z.2.2.2=false→z.1=nst∧x+f v≤1199∧o.length+(g v).length≤120∧z.2.1=x+f v∧z.2.2.1=o++g v)∧(z.2.2.2=true→ ¬(st+wk (l::ls) p≤1200∧out.length+(pts (l::ls) p).length≤120)))
    (fun j hj=>aG (fun h=>hj _ ⟨fun h'=>(by cases h'),fun _=>?_⟩) fun h=>?_) fun z hz=>?_
   ·have:=hfp v;omega
   ·have hc:m_ownClone p=some p:=by unfold m_ownClone;rw [if_pos (by omega)]
    refine aA hc (aA (bJ (by simp;omega)) (aK (aCI hf ls n (k+1) (p++[v]) (x+1) o (by omega) d2 (by omega) hp' (by omega) (by omega) i7) fun r ⟨r1,r2⟩=>?_));by_cases hc:x+1+f v≤1200∧o.length+(g v).length≤120
    ·rw [r1 hc];exact hj _ ⟨fun _=>⟨rfl,by omega,hc.2,show x+1+f v-1=x+f v by omega,rfl⟩,fun h=>(by cases h)⟩
    have hr1:=r2 hc;obtain⟨rb,⟨rn,rs,ro⟩⟩:=r;dsimp only at hr1⊢;subst hr1;exact hj _ ⟨fun h=>(by cases h),fun _=>by omega⟩
   obtain⟨za,zb,zc,zd⟩:=z;obtain⟨z2,z3⟩:=hz;dsimp only at z2 z3⊢;cases zd with
   |true=>exact Ev.some ⟨fun h=>absurd h (z3 rfl),fun _=>rfl⟩
   |false=>
    obtain⟨rfl,y1,y2,y3,y4⟩:=z2 rfl;refine hr _ ⟨rfl,by dsimp only;omega,.inl (by dsimp only;omega),?_,?_,by dsimp only;have:=hfp v;omega,by dsimp only;omega,?_⟩ (by dsimp only;have:=hfp v;omega)
    ·dsimp only;rw [pD i1,aEK,y3,i3];omega
    ·dsimp only;rw [y4,i4,pD i1,vBa];simp
    dsimp only;rw [y4,pV];exact y2
  have:jU (jF l p) v=jU (jF l p) (mB l p):=by
   rcases i2 with h2|h2
   ·rw [show v=mB l p by omega]
   subst h2;rw [jK (Y3 _),jK (by omega)]
  rw [this] at i3 i4 hol;rw [←hP] at i4 hol;refine⟨fun h=>?_,fun h=>?_⟩
  ·rw [i4,i3,hW,show st+(1+((jU (jF l p) (mB l p)).map f).sum)-1=st+((jU (jF l p) (mB l p)).map f).sum by omega]
  exact absurd ⟨by omega,by omega⟩ h
def NP(nest:List Loop):Option (List (List Int)):=if lB nest=true∧wk nest []≤1200∧(pts nest []).length≤120 then some (pts nest []) else none
def aHn:Option (List (List Int))→List (List Int)×Bool
 |none=>([],false)
 |some l=>(l,true)
theorem pt0:rO 0 []:=⟨rfl,by omega,fun x h=>by cases h⟩
theorem T4{n:Nat}(hn:6000≤n){nest:List Loop}(h:SmN nest):nX n nest=some (aHn (NP nest)):=by
 refine Ev.eq ?_;unfold nX;refine aA (aAO (by omega) h) ?_;unfold NP;cases hv:lB nest with
 |false=>exact Ev.some (by simp [aHn])
 |true=>
  have hf:=aDO hv;refine aK (aCI hf nest n 0 [] 0 [] (by have:=hf.1;omega) rfl (by omega) pt0 (by omega) (by omega) (by simp)) fun r ⟨r1,r2⟩=>?_;by_cases hc:(0:Int)+wk nest []≤1200∧([]:List (List Int)).length+(pts nest []).length≤120
  ·rw [r1 hc,if_pos ⟨rfl,by omega,by simpa using hc.2⟩];exact Ev.some (by simp [aHn])
  rw [r2 hc,if_neg fun h=>hc ⟨by omega,by simpa using h.2.2⟩];exact Ev.some rfl
theorem T1{n:Nat}(hn:6000≤n){nest:List Loop}(h:SmN nest):nQ n nest=some (aHn (NP nest)):=by
 refine Ev.eq ?_;unfold nQ;refine Ev.jn (fun z=>z= !(lB nest&&decide (wk nest []≤1200))) (fun j hj=>aA (Z9 (by omega) h) ?_) fun z hz=>?_
 ·cases hv:lB nest with
  |false=>exact hj _ (by rw [hv];rfl)
  |true=>
   have hf:=aDO hv;refine aK (aCd hf nest n 0 [] 1200 (by have:=hf.1;omega) rfl (by omega) pt0 (by omega) (by omega)) fun r ⟨r1,r2,r3,r4⟩=>hj _ ?_;rw [hv,vAZ];by_cases hw:wk nest []≤1200
   ·rw [decide_eq_true hw,decide_eq_false (by rw [r1 hw];omega)];rfl
   rw [decide_eq_false hw,decide_eq_true (r2 (by omega))];rfl
 subst hz;unfold NP;cases hv:lB nest with
 |false=>exact Ev.some (by simp [aHn])
 |true=>
  have hf:=aDO hv;by_cases hw:wk nest []≤1200
  ·rw [decide_eq_true hw];refine aK (u5 hf nest n 0 [] [] (by have:=hf.1;omega) rfl (by omega) pt0 hw (by simp)) fun r ⟨r1,r2⟩=>?_;by_cases hl:(pts nest []).length≤120
   ·rw [r1 (by simpa using hl),if_pos ⟨rfl,hw,hl⟩];refine aG (fun h=>absurd h (by simp;omega)) fun _=>Ev.some (by simp [aHn])
   have:=r2 (by simp;omega);rw [if_neg fun h=>hl h.2.2];exact aG (fun _=>Ev.some rfl) fun h=>absurd h (by omega)
  rw [decide_eq_false hw,if_neg fun h=>hw h.2.1];exact Ev.some rfl
def pE(s:List UInt8):Bool:=match s with
 | [b]=>decide (65≤b.toNat∧b.toNat≤68)
 |_=>false
theorem yZ{s:List UInt8}(h:s.length≠1):pE s=false:=by
 match s,h with
 | [],_=>rfl
 | [b],h=>exact absurd rfl h
 |_::_::_,_=>rfl
theorem aPz{s:List UInt8}(h:s.length=1): ∃b,s=[b]:=by
 match s,h with
 | [b],_=>exact⟨b,rfl⟩
theorem aKr(b:UInt8)(k:Nat)(hk:k<256):(b=UInt8.ofNat k)↔b.toNat=k:=by
 constructor
 ·intro h;rw [h];simp;omega
 intro h;rw [←h];simp
theorem aBU(b:UInt8):Lib.contains [65,66,67,68] [b]=decide (65≤b.toNat∧b.toNat≤68):=by
 have e1:(b=65)↔b.toNat=65:=aKr b 65 (by omega);have e2:(b=66)↔b.toNat=66:=aKr b 66 (by omega);have e3:(b=67)↔b.toNat=67:=aKr b 67 (by omega);have e4:(b=68)↔b.toNat=68:=aKr b 68 (by omega);by_cases h1:b=65
 ·subst h1;decide
 by_cases h2:b=66
 ·subst h2;decide
 by_cases h3:b=67
 ·subst h3;decide
 by_cases h4:b=68
 ·subst h4;decide
 rw [e1] at h1;rw [e2] at h2;rw [e3] at h3;rw [e4] at h4;rw [decide_eq_false (by omega)];rw [←e1] at h1;rw [←e2] at h2;rw [←e3] at h3;rw [←e4] at h4;simp [Lib.contains,Lib.index,h1,h2,h3,h4]
theorem G8(n:Nat)(s:List UInt8):sO n s=some (pE s):=by
 unfold sO;by_cases h:s.length=1
 ·obtain⟨b,rfl⟩:=aPz h;simp only [jn,m_contains];rw [if_pos (by simp),aBU];rfl
 rw [decide_eq_false (show¬(s.length:Int)=1 by omega),yZ h];rfl
theorem aAz(b:UInt8):Op.bytesLess [b] [65]=decide (b.toNat<65):=by simp [Op.bytesLess,UInt8.lt_iff_toNat_lt]
theorem aAy(b:UInt8):(Op.bytesLess [b] [68]||[b]==[68])=decide (b.toNat≤68):=by
 have e:(b=68)↔b.toNat=68:=aKr b 68 (by omega);by_cases h:b=68
 ·subst h;decide
 have h':b.toNat≠68:=fun e'=>h (e.2 e')
 have:([b]==[(68:UInt8)])=false:=by simp [h]
 rw [this,Bool.or_false];simp only [Op.bytesLess,Bool.and_false,Bool.or_false,UInt8.lt_iff_toNat_lt];apply decide_eq_decide.2;show b.toNat<68↔_;omega
def iB(a:Access)(d:Int):Bool:=a.subs.all (fun x=>bY x d)&&(pE a.array&&decide (1≤a.subs.length∧a.subs.length≤2))
theorem aJH{n:Nat}(hn:5000≤n){a:Affine}(ha:SmA a)(d:Int):lG n a d=some (!bY a d):=aAM hn ha d
theorem yG{n:Nat}(hn:5000≤n){a:Access}(ha:U8 a.subs)(d:Int):pK n a d=some (iB a d):=by
 obtain⟨h0,h1⟩:=ha;unfold pK;rw [G8,tV];have hc:=hJ (n:=n) (f:=fun q0=>lG n q0 d) (p:=fun a=> !bY a d) (l:=a.subs) (fun x hx=>aJH hn (h1 x hx) d) (by omega) (by omega);simp only [jn,Option.bind];rw [hc];unfold iB;have e:(a.subs.any fun a=> !bY a d)= !(a.subs.all fun a=>bY a d):=by
  rw [vBd];simp
 rw [e];cases pE a.array<;>cases decide (1≤a.subs.length∧a.subs.length≤2)<;>simp
theorem yB{n:Nat}(hn:5000≤n){a:Access}(ha:U8 a.subs)(d:Int):pA n a d=some (iB a d):=by
 obtain⟨h0,h1⟩:=ha;refine Ev.eq ?_;unfold pA;refine oJ (l:=a.subs) (p:=fun _ a=>bY a d) (by omega) (by omega) (fun again i x hx hgo hno=>?_) (fun again hall=>?_) (fun⟨i,x,hx,hp⟩=>?_)
 ·have hi:=(cX.1 hx).1;have hm:=h1 x (cR hx);rw [decide_eq_true (show(i:Int)<(a.subs.length:Int) by omega)];refine bZ (Ev.jn (fun z=>z= !bY x d) (fun j hj=>aA (aI hx) (aA (lY hn x hm) ?_)) fun z hz=>?_)
  ·cases ha:bI x with
   |false=>exact hj _ (by unfold bY;rw [ha];rfl)
   |true=>exact aA (yR hn hm) (hj _ (by unfold bY;rw [ha,ltd];simp))
  subst hz;cases hb:bY x d with
  |true=>show Ev (again _) _;rw [aN (by omega)];exact hgo hb
  |false=>exact Ev.some (hno hb)
 ·rw [decide_eq_false (show¬(a.subs.length:Int)<(a.subs.length:Int) by omega)];have e:a.subs.all (fun a=>bY a d)=true:=vAI.2 fun c hc=>by obtain⟨i,hi⟩:=vAL hc;exact hall i c hi
  unfold iB;rw [e,vAZ];refine b7 (Ev.jn (fun z=>z=(pE a.array&&decide (1≤a.subs.length∧a.subs.length≤2))) (fun j hj=>?_) fun z hz=>Ev.some hz);by_cases h:a.array.length=1
  ·rw [decide_eq_true (show(a.array.length:Int)=1 by omega)];obtain⟨b,hb⟩:=aPz h;rw [hb] at hj⊢;rw [aAz,aAy];show Ev (bif _ then _ else _) _;simp only [pE] at hj⊢;by_cases g1:b.toNat<65
   ·rw [decide_eq_true g1];exact hj _ (by rw [decide_eq_false (show¬(65≤b.toNat∧b.toNat≤68) by omega)];rfl)
   rw [decide_eq_false g1];by_cases g2:b.toNat≤68
   ·rw [decide_eq_true g2];rw [decide_eq_true (show 65≤b.toNat∧b.toNat≤68 by omega)] at hj⊢;refine aG (fun h=>hj _ ?_) fun h=>hj _ ?_
    ·by_cases h2:a.subs.length≤2
     ·rw [decide_eq_true (show(a.subs.length:Int)≤2 by omega),decide_eq_true (by omega)];rfl
     rw [decide_eq_false (show¬(a.subs.length:Int)≤2 by omega),decide_eq_false (by omega)];rfl
    rw [decide_eq_false (by omega)];rfl
   rw [decide_eq_false g2];exact hj _ (by rw [decide_eq_false (show¬(65≤b.toNat∧b.toNat≤68) by omega)];rfl)
  rw [decide_eq_false (show¬(a.array.length:Int)=1 by omega)];exact hj _ (by rw [yZ h];rfl)
 unfold iB;rw [vAM.2 ⟨x,cR hx,by rw [hp];simp⟩];rfl
def kC(a:Affine):Bool:=decide (a.coefs.length=0)&&decide (a.const=0)
def nI(a:Access):Bool:=decide (a.array=[])&&decide (a.subs.length=0)
theorem aNY(k:Nat):decide ((k:Int)=0)=decide (k=0):=decide_eq_decide.2 (by omega)
theorem aBQ(n:Nat)(a:Affine):pG n a=some (kC a):=by unfold pG kC;rw [aNY];cases decide (a.coefs.length=0)<;>rfl
theorem aEO(n:Nat)(a:Affine):sC n a=some (kC a):=by unfold sC kC;rw [aNY];cases decide (a.coefs.length=0)<;>rfl
theorem aBR(n:Nat)(a:Access):kR n a=some (nI a):=by unfold kR nI;rw [aNY];cases decide (a.array=[])<;>rfl
theorem aDo(n:Nat)(a:Access):oP n a=some (nI a):=by unfold oP nI;rw [aNY];cases decide (a.array=[])<;>rfl
def gH(e:Expr)(d:Int):Bool:=
 if e.kind=2 then decide (e.num=0)&&(nI e.read&&bY e.index d)
 else if e.kind=3 then decide (e.num=0)&&(kC e.index&&iB e.read d)
 else if e.kind=1 then decide (0≤e.num∧e.num≤99)&&(kC e.index&&nI e.read)
 else decide (e.num=0)&&(kC e.index&&nI e.read)
def iX(k:Int):Int:=if k=1∨k=2∨k=3 then 0 else if k=4∨k=5∨k=6 then 2 else-1
theorem aEP(n:Nat)(k:Int):C9 n k=some (iX k):=by
 unfold C9 iX;by_cases h1:k=1
 ·subst h1;rfl
 by_cases h2:k=2
 ·subst h2;rfl
 by_cases h3:k=3
 ·subst h3;rfl
 by_cases h4:k=4
 ·subst h4;rfl
 by_cases h5:k=5
 ·subst h5;rfl
 by_cases h6:k=6
 ·subst h6;rfl
 simp [jn,h1,h2,h3,h4,h5,h6]
theorem aGy{n:Nat}(hn:5000≤n){e:Expr}(h1:SmA e.index)(h2:U8 e.read.subs)(d:Int):W3 n e d=some (gH e d):=by
 unfold W3 gH;rw [aDo,aEO,lY hn _ h1,yR hn h1,yB hn h2];by_cases k2:e.kind=2
 ·rw [if_pos k2,decide_eq_true k2];simp only [jn,Option.bind,cond_true,bY];cases decide (e.num=0)<;>cases nI e.read<;>cases bI e.index<;>simp
 rw [if_neg k2,decide_eq_false k2];by_cases k3:e.kind=3
 ·rw [if_pos k3,decide_eq_true k3];simp only [jn,Option.bind,cond_true,cond_false];cases decide (e.num=0)<;>cases kC e.index<;>simp
 rw [if_neg k3,decide_eq_false k3];by_cases k1:e.kind=1
 ·rw [if_pos k1,decide_eq_true k1];simp only [jn,Option.bind,cond_true,cond_false];by_cases g1:0≤e.num<;>by_cases g2:e.num≤99<;>cases kC e.index<;>simp [g1,g2]
 rw [if_neg k1,decide_eq_false k1];simp only [jn,Option.bind,cond_false];cases decide (e.num=0)<;>cases kC e.index<;>simp
end Go.Lift
