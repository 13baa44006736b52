/- Plain facts on sums of products, on ranges, on the points of a nest. -/
import Derived.Test.YtjmaejilmokdgaaGreatBLawDraw
set_option maxRecDepth 100000
set_option linter.unusedVariables false
namespace Go.Lift
open Go
def G8:List Int→List Int→Int
 |c::cs,x::xs=>c*x+G8 cs xs
 |_,_=>0
def xL(m:Int)(x:Int):Prop:= -m≤x∧x≤m
theorem aKy{a b c x:Int}(ha:0≤a)(hb:0≤b)(h1:xL a c)(h2:xL b x):xL (a*b) (c*x):=by
 obtain⟨p1,p2⟩:=h1;obtain⟨q1,q2⟩:=h2;constructor
 ·have h:=vBl (show 0≤a+c by omega) (show 0≤b+x by omega);have k:=vBl (show 0≤a-c by omega) (show 0≤b-x by omega);have e1:(a+c)*(b+x)=a*b+a*x+c*b+c*x:=by rw [Int.add_mul,Int.mul_add,Int.mul_add];omega
  have e2:(a-c)*(b-x)=a*b-a*x-c*b+c*x:=by rw [Int.sub_mul,Int.mul_sub,Int.mul_sub];omega
  rw [e1] at h;rw [e2] at k;omega
 have h:=vBl (show 0≤a+c by omega) (show 0≤b-x by omega);have k:=vBl (show 0≤a-c by omega) (show 0≤b+x by omega);have e1:(a+c)*(b-x)=a*b-a*x+c*b-c*x:=by rw [Int.add_mul,Int.mul_sub,Int.mul_sub];omega
 have e2:(a-c)*(b+x)=a*b+a*x-c*b-c*x:=by rw [Int.sub_mul,Int.mul_add,Int.mul_add];omega
 rw [e1] at h;rw [e2] at k;omega
theorem aDI(cs:List Int):G8 cs []=0:=by cases cs<;>rfl
theorem aFc: ∀{cs xs:List Int} {c x:Int},cs[xs.length]? =some c→G8 cs (xs++[x])=G8 cs xs+c*x
 | [],xs,c,x,h=>by simp at h
 |d::cs,[],c,x,h=>by simp at h;subst h;simp [G8,aDI]
 |d::cs,y::xs,c,x,h=>by
  have h:cs[xs.length]? =some c:=by simpa using h
  simp only [List.cons_append,G8];rw [aFc h];omega
theorem aFb{cs xs:List Int}{i:Nat}{c x:Int}(hc:cs[i]? =some c)(hx:xs[i]? =some x):G8 cs (xs.take (i+1))=G8 cs (xs.take i)+c*x:=by have hi:=(cZ.1 hx).1;rw [xI,hx];exact aFc (by simpa [Nat.min_eq_left (Nat.le_of_lt hi)] using hc)
theorem aLD{M:Int}(hM:0≤M): ∀{cs xs:List Int},(∀c∈cs,xL 9 c)→(∀x∈xs,xL M x)→xL (9*M*xs.length) (G8 cs xs)
 | [],xs,_,_=>by
  have:0≤9*M*(xs.length:Int):=vBl (by omega) (by omega);simp only [G8,xL];omega
 |d::cs,[],_,_=>by simp [G8,xL]
 |d::cs,y::xs,hc,hx=>by
  have h1:=aLD hM (cs:=cs) (xs:=xs) (fun c h=>hc c (by simp [h])) fun x h=>hx x (by simp [h]);have h2:=aKy (by omega) hM (hc d (by simp)) (hx y (by simp));have e:9*M*((y::xs).length:Int)=9*M*(xs.length:Int)+9*M:=by simp [Int.mul_add]
  rw [e];simp only [G8,xL] at*;omega
def kS(lo hi:Int):List Int:=(List.range (hi-lo).toNat).map (fun(i:Nat)=>lo+(i:Int))
theorem aMR{lo hi v:Int}:v∈kS lo hi↔lo≤v∧v<hi:=by
 simp only [kS,List.mem_map,List.mem_range];constructor
 ·rintro⟨i,hi,rfl⟩;omega
 intro h;exact⟨(v-lo).toNat,by omega,by omega⟩
theorem jD{lo hi:Int}(h:hi≤lo):kS lo hi=[]:=by unfold kS;rw [show(hi-lo).toNat=0 by omega];rfl
theorem pG{lo hi:Int}(h:lo≤hi):kS lo (hi+1)=kS lo hi++[hi]:=by unfold kS;rw [show(hi+1-lo).toNat=(hi-lo).toNat+1 by omega,vBE,vAM];simp;omega
theorem wX{lo v hi:Int}(h1:lo≤v)(h2:v<hi):kS lo hi=kS lo v++v::kS (v+1) hi:=by
 obtain⟨k,hk⟩: ∃k:Nat,hi=v+1+k:=⟨(hi-v-1).toNat,by omega⟩
 subst hk;clear h2;induction k with
 |zero=>
  rw [show v+1+((0:Nat):Int)=v+1 by omega,pG h1,jD (O3 _)]
 |succ k ih=>
  rw [show v+1+((k+1:Nat):Int)=v+1+(k:Int)+1 by omega,pG (by omega),ih,pG (by omega)];simp
theorem V4{α:Type}{f:α→Option Bool}{p:α→Bool}{l:List α}(hf: ∀x∈l,f x=some (p x)){n:Nat}(hl:l.length<n)(hl2:l.length≤1000000):
  ∃r:Int,aL (fun again2 (x1:Int)=>bif decide (x1<(l.length:Int)) then(Option.bind (ix l x1) fun x3=>Option.bind (f x3) fun x4=>bif x4 then(some x1) else(again2 (wr (x1+1)))) else(some (-1))) n 0=some r∧decide (0≤r)=l.any p:=by
 suffices h:Ev (aL (fun again2 (x1:Int)=>bif decide (x1<(l.length:Int)) then(Option.bind (ix l x1) fun x3=>Option.bind (f x3) fun x4=>bif x4 then(some x1) else(again2 (wr (x1+1)))) else(some (-1))) n 0) (fun r=>decide (0≤r)=l.any p) by exact h
 refine Ev.loop (fun x:Int=>0≤x∧x≤l.length∧(l.take x.toNat).any p=false) (fun x:Int=>l.length-x.toNat) ?_ n 0 ⟨by omega,by omega,by simp⟩ (by simp;omega);rintro again x ⟨h0,h1,h2⟩ hr;refine aH (fun hlt=>?_) fun hge=>?_
 ·obtain⟨y,hy,hy2⟩:=jO h0 hlt;have hm:=cR hy2;refine aA hy (aA (hf y hm) (Ev.cond (fun ht=>Ev.some ?_) fun hfl=>?_))
  ·rw [show l.any p=true from vBp.2 ⟨y,hm,ht⟩];simp [h0]
  rw [aO (by omega)];refine hr _ ⟨by omega,by omega,?_⟩ (by omega);rw [show(x+1).toNat=x.toNat+1 by omega,xI,hy2];simp [h2,hfl]
 refine Ev.some ?_;have hx:x.toNat=l.length:=by omega
 rw [hx,qG] at h2;rw [h2];simp
theorem nZ{f:Int→Option Bool}{p:Int→Bool}{l:List Int}(hf: ∀x∈l,f x=some (p x)){n:Nat}(hl:l.length<n)(hl2:l.length≤1000000):b6 n l f=some (l.any p):=by obtain⟨r,h1,h2⟩:=V4 hf hl hl2;unfold b6 gX;rw [h1,←h2];rfl
theorem kF{f:Affine→Option Bool}{p:Affine→Bool}{l:List Affine}(hf: ∀x∈l,f x=some (p x)){n:Nat}(hl:l.length<n)(hl2:l.length≤1000000):cI n l f=some (l.any p):=by obtain⟨r,h1,h2⟩:=V4 hf hl hl2;unfold cI kI;rw [h1,←h2];rfl
theorem aBB{f:Stmt→Option Bool}{p:Stmt→Bool}{l:List Stmt}(hf: ∀x∈l,f x=some (p x)){n:Nat}(hl:l.length<n)(hl2:l.length≤1000000):gA n l f=some (l.any p):=by obtain⟨r,h1,h2⟩:=V4 hf hl hl2;unfold gA lW;rw [h1,←h2];rfl
theorem R6{f:Access→Option Bool}{p:Access→Bool}{l:List Access}(hf: ∀x∈l,f x=some (p x)){n:Nat}(hl:l.length<n)(hl2:l.length≤1000000):fD n l f=some (l.any p):=by obtain⟨r,h1,h2⟩:=V4 hf hl hl2;unfold fD kJ;rw [h1,←h2];rfl
theorem oH{α:Type}{l:List α}{p:Nat→α→Bool}{Q:Bool→Prop}{body:(Int→Option Bool)→Int→Option Bool}{n:Nat}(hl:l.length<n)(hl2:l.length≤1000000)
  (hstep: ∀again (i:Nat) x,l[i]? =some x→(p i x=true→Ev (again ((i:Int)+1)) Q)→(p i x=false→Q false)→Ev (body again (i:Int)) Q)
  (hend: ∀again,(∀(i:Nat) x,l[i]? =some x→p i x=true)→Ev (body again (l.length:Int)) Q) (hbad:(∃(i:Nat) (x:α),l[i]? =some x∧p i x=false)→Q false):Ev (aL body n 0) Q:=by
 refine Ev.loop (fun x:Int=> ∃i:Nat,x=i∧i≤l.length∧ ∀(j:Nat) y,j<i→l[j]? =some y→p j y=true) (fun x:Int=>l.length-x.toNat) ?_ n 0 ⟨0,rfl,by omega,fun j y h=>by omega⟩ (by simp;omega);rintro again x ⟨i,rfl,hi,ha⟩ hr;by_cases hlt:i<l.length
 ·have hx:=cP hlt;refine hstep again i _ hx (fun hp=>hr _ ⟨i+1,by omega,by omega,fun j y hj hy=>?_⟩ (by omega)) fun hp=>hbad ⟨i,_,hx,hp⟩;by_cases hji:j=i
  ·subst hji;rw [hx] at hy;cases hy;exact hp
  exact ha j y (by omega) hy
 have hil:i=l.length:=by omega
 subst hil;exact hend again fun j y hy=>ha j y (cZ.1 hy).1 hy
def bY(a:Affine):Bool:=decide (a.coefs.length=4)&&(decide (-99≤a.const∧a.const≤99)&&a.coefs.all fun c=>decide (-9≤c∧c≤9))
theorem gM{a:Affine}(h:bY a=true):a.coefs.length=4∧xL 99 a.const∧ ∀c∈a.coefs,xL 9 c:=by simp only [bY,Bool.and_eq_true,decide_eq_true_eq,List.all_eq_true] at h;exact⟨h.1,h.2.1,h.2.2⟩
theorem eV(n:Nat)(x a b:Int):cS n x a b=some (decide (a≤x∧x≤b)):=by unfold cS;by_cases h1:a≤x<;>by_cases h2:x≤b<;>simp [jn,h1,h2]
theorem sI{n:Nat}(hn:5000≤n)(a:Affine)(ha:a.coefs.length≤1000):iH n a=some (bY a):=by
 have hf: ∀x∈a.coefs,iB n x=some (!decide (-9≤x∧x≤9)):=fun x _=>by unfold iB;rw [eV];rfl
 have hc:=nZ (n:=n) hf (by omega) (by omega);unfold iH M1;rw [eV];simp only [jn,Option.bind];rw [hc];unfold bY;have e:(a.coefs.any fun x=> !decide (-9≤x∧x≤9))= !(a.coefs.all fun c=>decide (-9≤c∧c≤9)):=by
  rw [vAZ];simp
 rw [e];by_cases h1:a.coefs.length=4
 ·rw [decide_eq_true (show(a.coefs.length:Int)=4 by omega),decide_eq_true h1];generalize decide (-99≤a.const∧a.const≤99)=b;cases b<;>simp
 rw [decide_eq_false (show¬(a.coefs.length:Int)=4 by omega),decide_eq_false h1];rfl
theorem uY(n:Nat)(x m:Int)(hm:0≤m∧m≤1000000000):lQ n x m=some (decide (-m≤x∧x≤m)):=by
 unfold lQ;rw [aO (by omega)];by_cases h1: -m≤x<;>by_cases h2:x≤m
 ·simp [jn,h1,h2]
 ·simp [jn,h1,h2]
 ·simp [jn,h1,h2]
 simp [jn,h1,h2]
theorem lT{n:Nat}(hn:5000≤n)(a:Affine)(ha:a.coefs.length≤1000):fW n a=some (bY a):=by
 refine Ev.eq ?_;unfold fW;refine oH (l:=a.coefs) (p:=fun _ c=>decide (-9≤c∧c≤9)) (by omega) (by omega) (fun again i x hx hgo hno=>?_) (fun again hall=>?_) (fun⟨i,x,hx,hp⟩=>?_)
 ·rw [decide_eq_true (show(i:Int)<(a.coefs.length:Int) by have:=(cZ.1 hx).1;omega)];refine aA (aM hx) (aA (uY n x 9 (by omega)) ?_);have hi:=(cZ.1 hx).1;cases hp:decide (-9≤x∧x≤9) with
  |true=>show Ev (again _) _;rw [aO (by omega)];exact hgo hp
  |false=>exact Ev.some (hno hp)
 ·rw [decide_eq_false (show¬(a.coefs.length:Int)<(a.coefs.length:Int) by omega)];have e:a.coefs.all (fun c=>decide (-9≤c∧c≤9))=true:=V9.2 fun c hc=>by obtain⟨i,hi⟩:=vAK hc;exact hall i c hi
  refine Ev.cond (fun h=>(by cases h)) fun _=>?_;unfold bY;rw [e];refine Ev.jn (fun z:Bool=>z=(decide (a.coefs.length=4)&&(decide (-99≤a.const∧a.const≤99)&&true))) (fun j hj=>?_) fun z hz=>Ev.some hz;refine aH (fun h=>aA (uY n a.const 99 (by omega)) (hj _ ?_)) fun h=>hj _ ?_
  ·rw [decide_eq_true (show a.coefs.length=4 by omega)];simp
  rw [decide_eq_false (show¬a.coefs.length=4 by omega)];rfl
 unfold bY;have e:a.coefs.all (fun c=>decide (-9≤c∧c≤9))=false:=vAL.2 ⟨x,cR hx,by rw [hp];simp⟩;rw [e];simp
def dI(a:Affine)(p:List Int):Int:=a.const+G8 a.coefs p
def ptB(M:Int)(p:List Int):Prop:= ∀x∈p,xL M x
theorem xC{a:Affine}(ha:bY a=true){p:List Int}(hp:p.length≤4){M:Int}(hM:0≤M∧M≤1000000000)(hB:ptB M p)(i:Nat)(hi:i≤p.length):xL 1000000000000 (a.const+G8 a.coefs (p.take i)):=by
 obtain⟨h1,h2,h3⟩:=gM ha;have h4:=aLD (M:=M) hM.1 (cs:=a.coefs) (xs:=p.take i) h3 fun x hx=>hB x (vAC hx);have h5:(p.take i).length≤4:=by simp;omega
 have h6:9*M*((p.take i).length:Int)≤9*M*4:=Int.mul_le_mul_of_nonneg_left (by omega) (by omega);simp only [xL] at*;omega
theorem aI6{n:Nat}(hn:5000≤n){a:Affine}(ha:bY a=true){p:List Int}(hp:p.length≤4){M:Int}(hM:0≤M∧M≤1000000000)(hB:ptB M p):dD n a p=some (dI a p):=by
 obtain⟨h1,h2,h3⟩:=gM ha;refine Ev.eq ?_;unfold dD;refine Ev.loop (fun x:Int×Int=> ∃i:Nat,x.2=i∧i≤p.length∧x.1=a.const+G8 a.coefs (p.take i)) (fun x=>p.length-x.2.toNat) ?_ n _ ⟨0,rfl,by omega,by simp [aDI]⟩ (by simp;omega);rintro again ⟨x,k⟩ ⟨i,hk,hi,hx⟩ hr;dsimp only at hk hx⊢;subst hk;refine aH (fun hlt=>?_) fun hge=>Ev.some ?_
 ·have hlt:i<p.length:=by omega
  have hp2:=cP hlt;have hc2:=cP (show i<a.coefs.length by omega);have hd:=aFb hc2 hp2;have e1:=xC ha hp hM hB i hi;have e2:=xC ha hp hM hB (i+1) (by omega);rw [hd] at e2;have e3:=aKy (by omega) hM.1 (h3 _ (cR hc2)) (hB _ (cR hp2));refine aA (aM hp2) (aA (aM hc2) ?_);simp only [xL] at e1 e2 e3;rw [aO (n:=a.coefs[i]*p[i]) (by omega),aO (by omega),aO (by omega)];refine hr _ ⟨i+1,by dsimp only;omega,by omega,?_⟩ (by dsimp only;omega);dsimp only;rw [hd,hx];omega
 have:i=p.length:=by omega
 rw [hx,this,qG];rfl
theorem aIM{n:Nat}(hn:5000≤n){a:Affine}(ha:bY a=true){p:List Int}(hp:p.length≤4){M:Int}(hM:0≤M∧M≤1000000000)(hB:ptB M p):jV n a p=some (dI a p):=by
 obtain⟨h1,h2,h3⟩:=gM ha;refine Ev.eq ?_;unfold jV;refine Ev.loop (fun x:Int×Int=> ∃i:Nat,x.2=i∧i≤p.length∧x.1=a.const+G8 a.coefs (p.take i)) (fun x=>p.length-x.2.toNat) ?_ n _ ⟨0,rfl,by omega,by simp [aDI]⟩ (by simp;omega);rintro again ⟨x,k⟩ ⟨i,hk,hi,hx⟩ hr;dsimp only at hk hx⊢;subst hk;refine Ev.jn (fun z=>z=decide (i<p.length)) (fun j hj=>aH (fun h=>hj _ ?_) fun h=>hj _ ?_) fun z hz=>?_
 ·rw [decide_eq_true (show i<p.length by omega),decide_eq_true (show(i:Int)<(a.coefs.length:Int) by omega)]
 ·rw [decide_eq_false (show¬i<p.length by omega)]
 subst hz;refine aH (fun hlt=>?_) fun hge=>Ev.some ?_
 ·have hp2:=cP hlt;have hc2:=cP (show i<a.coefs.length by omega);have hd:=aFb hc2 hp2;have e1:=xC ha hp hM hB i hi;have e2:=xC ha hp hM hB (i+1) (by omega);rw [hd] at e2;have e3:=aKy (by omega) hM.1 (h3 _ (cR hc2)) (hB _ (cR hp2));refine aA (aM hc2) (aA (aM hp2) ?_);simp only [xL] at e1 e2 e3;rw [aO (n:=a.coefs[i]*p[i]) (by omega),aO (by omega),aO (by omega)];refine hr _ ⟨i+1,by dsimp only;omega,by omega,?_⟩ (by dsimp only;omega);dsimp only;rw [hd,hx];omega
 have:i=p.length:=by omega
 rw [hx,this,qG];rfl
theorem cA{R:Type}{Q:R→Prop}{A B:Option R}(h:Ev A Q):Ev (bif true then A else B) Q:=h
theorem cC{R:Type}{Q:R→Prop}{A B:Option R}(h:Ev B Q):Ev (bif false then A else B) Q:=h
def fH:List Int→Nat
 | []=>0
 |c::cs=>if fH cs=0 then(if c=0 then 0 else 1) else fH cs+1
theorem P5: ∀(l:List Int) (c:Int),fH (l++[c])=if c=0 then fH l else l.length+1
 | [],c=>by simp [fH]
 |d::l,c=>by
  have ih:=P5 l c;simp only [List.cons_append,fH,ih];by_cases hc:c=0
  ·simp [hc]
  simp [hc]
theorem P4{l:List Int}{i:Nat}{c:Int}(h:l[i]? =some c):fH (l.take (i+1))=if c=0 then fH (l.take i) else i+1:=by have hi:=(cZ.1 h).1;rw [xI,h];show fH (l.take i++[c])=_;rw [P5,rN,Nat.min_eq_left (Nat.le_of_lt hi)]
theorem P3: ∀{l:List Int} {i:Nat} {c:Int},l[i]? =some c→fH l≤i→c=0
 | [],i,c,h,_=>by simp at h
 |d::l,0,c,h,hd=>by
  simp at h;subst h;simp only [fH] at hd;by_cases h1:fH l=0
  ·by_cases h2:d=0
   ·exact h2
   simp [h1,h2] at hd
  simp [h1] at hd
 |d::l,i+1,c,h,hd=>by
  have h:l[i]? =some c:=by simpa using h
  refine P3 h ?_;simp only [fH] at hd;by_cases h1:fH l=0
  ·omega
  rw [if_neg h1] at hd;omega
def SmA(a:Affine):Prop:=a.coefs.length≤1000
def S7(l:List Affine):Prop:=l.length≤1000∧ ∀a∈l,SmA a
theorem yJ{n:Nat}(hn:5000≤n){a:Affine}(ha:SmA a):oU n a=some (fH a.coefs:Int):=by
 have ha:a.coefs.length≤1000:=ha;refine Ev.eq ?_;unfold oU;refine Ev.loop (fun x:Int×Int=> ∃i:Nat,x.2=i∧i≤a.coefs.length∧x.1=(fH (a.coefs.take i):Int)) (fun x=>a.coefs.length-x.2.toNat) ?_ n _ ⟨0,rfl,by omega,by simp [fH]⟩ (by simp;omega);rintro again ⟨x,k⟩ ⟨i,hk,hi,hx⟩ hr;dsimp only at hk hx⊢;subst hk;refine aH (fun hlt=>?_) fun hge=>Ev.some ?_
 ·have hlt:i<a.coefs.length:=by omega
  have hc:=cP hlt;have hd:=P4 hc;refine Ev.jn (fun z:Int=>z=(fH (a.coefs.take (i+1)):Int)) (fun j hj=>aA (aM hc) (dP (fun h0=>hj _ ?_) fun h0=>hj _ ?_)) fun z hz=>?_
  ·rw [hd,if_neg h0,aO (by omega)];omega
  ·rw [hd,if_pos h0,hx]
  rw [aO (by omega)];exact hr _ ⟨i+1,by dsimp only;omega,by omega,hz⟩ (by dsimp only;omega)
 have:i=a.coefs.length:=by omega
 rw [hx,this,qG]
theorem aAp{n:Nat}(hn:5000≤n){a:Affine}(ha:SmA a):gF n a=some (fH a.coefs:Int):=by
 have ha:a.coefs.length≤1000:=ha;refine Ev.eq ?_;unfold gF;refine Ev.loop (fun x:Int=> ∃i:Nat,x=i∧i≤a.coefs.length∧fH a.coefs=fH (a.coefs.take i)) (fun x=>x.toNat) ?_ n _ ⟨a.coefs.length,rfl,by omega,by rw [qG]⟩ (by simp;omega);rintro again x ⟨i,rfl,hi,hx⟩ hr;cases i with
 |zero=>
  refine Ev.jn (fun z=>z=false) (fun j hj=>aH (fun h=>absurd h (by decide)) fun h=>hj _ rfl) fun z hz=>?_;subst hz;exact Ev.some (by rw [hx];rfl)
 |succ i=>
  have hlt:i<a.coefs.length:=by omega
  have hc:=cP hlt;have hd:=P4 hc;have e:wr (((i+1:Nat):Int)-1)=(i:Int):=by rw [aO (by omega)];omega
  rw [e];refine Ev.jn (fun z=>z=decide (a.coefs[i]=0)) (fun j hj=>aH (fun h=>aA (aM hc) (hj _ rfl)) fun h=>absurd (show(0:Int)<((i+1:Nat):Int) by omega) h) fun z hz=>?_;subst hz;refine aH (fun h0=>?_) fun h0=>Ev.some ?_
  ·exact hr _ ⟨i,rfl,by omega,by rw [hx,hd,if_pos h0]⟩ (by omega)
  rw [hx,hd,if_neg h0]
def b8(a:Affine)(d:Int):Bool:=bY a&&decide ((fH a.coefs:Int)≤d)
def cV(l:List Affine)(d:Int):Bool:=l.all (fun a=>b8 a d)&&decide (1≤l.length∧l.length≤2)
theorem ltd(a b:Int):decide (a<b)= !decide (b≤a):=by
 by_cases h:a<b
 ·rw [decide_eq_true h,decide_eq_false (by omega)];rfl
 rw [decide_eq_false h,decide_eq_true (by omega)];rfl
theorem O5{n:Nat}(hn:5000≤n){l:List Affine}(hl:S7 l)(d:Int):vA n l d=some (cV l d):=by
 obtain⟨h0,h1⟩:=hl;refine Ev.eq ?_;unfold vA;refine oH (l:=l) (p:=fun _ a=>b8 a d) (by omega) (by omega) (fun again i x hx hgo hno=>?_) (fun again hall=>?_) (fun⟨i,x,hx,hp⟩=>?_)
 ·have hi:=(cZ.1 hx).1;have hm:=h1 x (cR hx);rw [decide_eq_true (show(i:Int)<(l.length:Int) by omega)];refine cA (Ev.jn (fun z=>z= !b8 x d) (fun j hj=>aA (aM hx) (aA (lT hn x hm) ?_)) fun z hz=>?_)
  ·cases ha:bY x with
   |false=>exact hj _ (by unfold b8;rw [ha];rfl)
   |true=>exact aA (yJ hn hm) (hj _ (by unfold b8;rw [ha,ltd];simp))
  subst hz;cases hb:b8 x d with
  |true=>show Ev (again _) _;rw [aO (by omega)];exact hgo hb
  |false=>exact Ev.some (hno hb)
 ·rw [decide_eq_false (show¬(l.length:Int)<(l.length:Int) by omega)];have e:l.all (fun a=>b8 a d)=true:=V9.2 fun c hc=>by obtain⟨i,hi⟩:=vAK hc;exact hall i c hi
  unfold cV;rw [e];refine cC (Ev.jn (fun z=>z=decide (1≤l.length∧l.length≤2)) (fun j hj=>aH (fun h=>hj _ ?_) fun h=>hj _ ?_) fun z hz=>Ev.some (by rw [hz];rfl))
  ·by_cases h2:l.length≤2
   ·rw [decide_eq_true (show(l.length:Int)≤2 by omega),decide_eq_true (by omega)]
   rw [decide_eq_false (show¬(l.length:Int)≤2 by omega),decide_eq_false (by omega)]
  rw [decide_eq_false (by omega)]
 unfold cV;rw [vAL.2 ⟨x,cR hx,by rw [hp];simp⟩];rfl
theorem aAr{n:Nat}(hn:5000≤n){a:Affine}(ha:SmA a)(d:Int):jF n a d=some (!b8 a d):=by
 unfold jF;rw [sI hn a ha];simp only [jn,Option.bind];cases hb:bY a with
 |false=>simp [b8,hb]
 |true=>
  rw [aAp hn ha];simp only [b8,hb,Bool.not_true,cond_false,Bool.true_and];rw [ltd]
theorem tM(n k:Nat):cS n (k:Int) 1 2=some (decide (1≤k∧k≤2)):=by
 rw [eV];congr 1;by_cases h:1≤k∧k≤2
 ·rw [decide_eq_true h,decide_eq_true (by omega)]
 rw [decide_eq_false h,decide_eq_false (by omega)]
theorem xV{n:Nat}(hn:5000≤n){l:List Affine}(hl:S7 l)(d:Int):pM n l d=some (cV l d):=by
 obtain⟨h0,h1⟩:=hl;unfold pM;rw [tM];have hc:=kF (n:=n) (f:=fun q0=>jF n q0 d) (p:=fun a=> !b8 a d) (l:=l) (fun x hx=>aAr hn (h1 x hx) d) (by omega) (by omega);simp only [jn,Option.bind];rw [hc];unfold cV;have e:(l.any fun a=> !b8 a d)= !(l.all fun a=>b8 a d):=by
  rw [vAZ];simp
 rw [e];cases decide (1≤l.length∧l.length≤2)<;>simp
def aAo{α:Type}(p:Nat→α→Bool)(l:List α):Bool:=l.zipIdx.all fun q=>p q.2 q.1
theorem qM{α:Type}{p:Nat→α→Bool}{l:List α}(h: ∀(i:Nat) x,l[i]? =some x→p i x=true):aAo p l=true:=
 V9.2 fun q hq=>h q.2 q.1 (vBd.1 hq)
theorem nP{α:Type}{p:Nat→α→Bool}{l:List α}{i:Nat}{x:α}(h:l[i]? =some x)(hp:p i x=false):aAo p l=false:=
 vAL.2 ⟨(x,i),vBd.2 h,by rw [hp];simp⟩
theorem aAn{α:Type}{p:Nat→α→Bool}{l:List α}(h:aAo p l=true){i:Nat}{x:α}(hx:l[i]? =some x):p i x=true:=
 V9.1 h (x,i) (vBd.2 hx)
def kY(nest:List Loop):Bool:=aAo (fun i l=>cV l.lo (i:Int)&&cV l.hi (i:Int)) nest&&decide (nest.length≤4)
def SmN(nest:List Loop):Prop:=nest.length≤1000∧ ∀l∈nest,S7 l.lo∧S7 l.hi
theorem aAt{n:Nat}(hn:5000≤n){nest:List Loop}(h:SmN nest):qP n nest=some (kY nest):=by
 obtain⟨h0,h1⟩:=h;refine Ev.eq ?_;unfold qP;refine oH (l:=nest) (p:=fun i l=>cV l.lo (i:Int)&&cV l.hi (i:Int)) (by omega) (by omega) (fun again i x hx hgo hno=>?_) (fun again hall=>?_) (fun⟨i,x,hx,hp⟩=>?_)
 ·have hi:=(cZ.1 hx).1;obtain⟨m1,m2⟩:=h1 x (cR hx);rw [decide_eq_true (show(i:Int)<(nest.length:Int) by omega)];refine aA (aM hx) (Ev.jn (fun z=>z= !(cV x.lo (i:Int)&&cV x.hi (i:Int))) (fun j hj=>aA (xV hn m1 _) ?_) fun z hz=>?_)
  ·cases ha:cV x.lo (i:Int) with
   |false=>exact hj _ (by rw [ha];rfl)
   |true=>exact aA (xV hn m2 _) (hj _ (by rw [ha];rfl))
  subst hz;cases hb:(cV x.lo (i:Int)&&cV x.hi (i:Int)) with
  |true=>show Ev (again _) _;rw [aO (by omega)];exact hgo hb
  |false=>exact Ev.some (hno hb)
 ·rw [decide_eq_false (show¬(nest.length:Int)<(nest.length:Int) by omega)];refine Ev.some ?_;unfold kY;rw [qM hall,vBa];exact decide_eq_decide.2 (by omega)
 unfold kY;rw [nP hx hp];rfl
theorem Y0{n:Nat}(hn:5000≤n){nest:List Loop}(h:SmN nest):qK n nest=some (kY nest):=by
 obtain⟨h0,h1⟩:=h;unfold qK;by_cases h4:nest.length≤4
 ·rw [decide_eq_true (show(nest.length:Int)≤4 by omega)];refine Ev.eq ?_;refine oH (l:=nest) (p:=fun i l=>cV l.lo (i:Int)&&cV l.hi (i:Int)) (by omega) (by omega) (fun again i x hx hgo hno=>?_) (fun again hall=>?_) (fun⟨i,x,hx,hp⟩=>?_)
  ·have hi:=(cZ.1 hx).1;obtain⟨m1,m2⟩:=h1 x (cR hx);rw [decide_eq_true (show(i:Int)<(nest.length:Int) by omega)];refine Ev.jn (fun z=>z=true) (fun j hj=>cA (hj _ rfl)) fun z hz=>?_;subst hz;refine cA (Ev.jn (fun z=>z= !(cV x.lo (i:Int)&&cV x.hi (i:Int))) (fun j hj=>aA (aM hx) (aA (O5 hn m1 _) ?_)) fun z hz=>?_)
   ·cases ha:cV x.lo (i:Int) with
    |false=>exact hj _ (by rw [ha];rfl)
    |true=>exact aA (O5 hn m2 _) (hj _ (by rw [ha];rfl))
   subst hz;cases hb:(cV x.lo (i:Int)&&cV x.hi (i:Int)) with
   |true=>show Ev (again _) _;rw [aO (by omega)];exact hgo hb
   |false=>exact Ev.some (hno hb)
  ·rw [decide_eq_false (show¬(nest.length:Int)<(nest.length:Int) by omega)];refine Ev.jn (fun z=>z=false) (fun j hj=>cC (hj _ rfl)) fun z hz=>?_;subst hz;refine Ev.some ?_;unfold kY;rw [qM hall,decide_eq_true h4];rfl
  unfold kY;rw [nP hx hp];rfl
 obtain⟨k,rfl⟩: ∃k,n=k+1:=⟨n-1,by omega⟩
 rw [decide_eq_false (show¬(nest.length:Int)≤4 by omega)];unfold kY;rw [decide_eq_false h4,vBr];simp only [aL,jn];cases decide ((0:Int)<(nest.length:Int))<;>rfl
def mx:List Int→Int
 | []=>0
 |x::xs=>xs.foldl max x
def mn:List Int→Int
 | []=>0
 |x::xs=>xs.foldl min x
theorem aM0{l:List Int}(h:l≠[])(x:Int):mx (l++[x])=max (mx l) x:=by
 cases l with
 |nil=>exact absurd rfl h
 |cons a l=>simp [mx,List.foldl_append]
theorem aM3{l:List Int}(h:l≠[])(x:Int):mn (l++[x])=min (mn l) x:=by
 cases l with
 |nil=>exact absurd rfl h
 |cons a l=>simp [mn,List.foldl_append]
theorem aNV: ∀(l:List Int) (a:Int),a≤l.foldl max a
 | [],a=>O3 _
 |x::l,a=>Int.le_trans (Int.le_max_left a x) (aNV l (max a x))
theorem aNW: ∀(l:List Int) (a:Int),l.foldl min a≤a
 | [],a=>O3 _
 |x::l,a=>Int.le_trans (aNW l (min a x)) (Int.min_le_left a x)
def evs(l:List Affine)(p:List Int):List Int:=l.map fun a=>dI a p
def jN(l:Loop)(p:List Int):Int:=mx (evs l.lo p)
def mV(l:Loop)(p:List Int):Int:=mn (evs l.hi p)
def qC(k:Nat)(p:List Int):Prop:=p.length=k∧k≤4∧ptB (100*40^k) p
theorem Y9{k:Nat}(h:k≤4):(0:Int)≤100*40^k∧(100:Int)*40^k≤1000000000:=by
 match k,h with
 |0,_=>decide
 |1,_=>decide
 |2,_=>decide
 |3,_=>decide
 |4,_=>decide
theorem uX{l:List Affine}{d:Int}(h:cV l d=true):1≤l.length∧l.length≤2∧ ∀a∈l,bY a=true:=by
 simp only [cV,Bool.and_eq_true,decide_eq_true_eq,List.all_eq_true] at h;refine⟨h.2.1,h.2.2,fun a ha=>?_⟩
 have:=h.1 a ha;simp only [b8,Bool.and_eq_true] at this;exact this.1
theorem aK2{a:Affine}(ha:bY a=true){k:Nat}{p:List Int}(hp:qC k p)(hk:k≤3): -(40*(100*40^k))≤dI a p∧dI a p≤40*(100*40^k):=by
 obtain⟨h1,h2,h3⟩:=gM ha;obtain⟨p1,p2,p3⟩:=hp;obtain⟨q1,q2⟩:=Y9 (k:=k) (by omega);have hq:(100:Int)≤100*40^k:=by
  match k,hk with
  |0,_=>decide
  |1,_=>decide
  |2,_=>decide
  |3,_=>decide
 generalize (100*40^k:Int)=M at*;have h4:=aLD (M:=M) q1 (cs:=a.coefs) (xs:=p) h3 fun x hx=>p3 x hx;have h6:9*M*(p.length:Int)≤9*M*3:=Int.mul_le_mul_of_nonneg_left (by omega) (by omega);simp only [xL] at*;unfold dI;omega
theorem aKe{n:Nat}(hn:5000≤n){a:Affine}(ha:bY a=true){k:Nat}{p:List Int}(hp:qC k p):jV n a p=some (dI a p):=
 aIM hn ha (by have:=hp.1;have:=hp.2.1;omega) (Y9 hp.2.1) hp.2.2
theorem aI7{n:Nat}(hn:5000≤n){a:Affine}(ha:bY a=true){k:Nat}{p:List Int}(hp:qC k p):dD n a p=some (dI a p):=
 aI6 hn ha (by have:=hp.1;have:=hp.2.1;omega) (Y9 hp.2.1) hp.2.2
theorem mO{l:List Affine}{p:List Int}{i:Nat}{a:Affine}(h:l[i]? =some a):(evs l p)[i]? =some (dI a p):=by unfold evs;rw [List.getElem?_map,h];rfl
theorem U7(l:List Affine)(p:List Int):(evs l p).length=l.length:=qF ..
theorem aHV{α:Type}{l:List α}{i:Nat}(h:1≤i)(hl:1≤l.length):l.take i≠[]:=by
 intro e
 have:(l.take i).length=0:=by rw [e];rfl
 rw [rN] at this;omega
theorem aH6{l:List Int}{i:Nat}{x:Int}(h:l[i]? =some x)(hi:1≤i):mx (l.take (i+1))=max (mx (l.take i)) x:=by have:=(cZ.1 h).1;rw [xI,h];exact aM0 (aHV hi (by omega)) x
theorem aH8{l:List Int}{i:Nat}{x:Int}(h:l[i]? =some x)(hi:1≤i):mn (l.take (i+1))=min (mn (l.take i)) x:=by have:=(cZ.1 h).1;rw [xI,h];exact aM3 (aHV hi (by omega)) x
theorem aGD{l:List Int}{x:Int}(h:l[0]? =some x):mx (l.take 1)=x:=by
 cases l with
 |nil=>simp at h
 |cons a l=>simp at h;subst h;rfl
theorem aGE{l:List Int}{x:Int}(h:l[0]? =some x):mn (l.take 1)=x:=by
 cases l with
 |nil=>simp at h
 |cons a l=>simp at h;subst h;rfl
theorem X6{n:Nat}(hn:5000≤n){l:Loop}{d d':Int}(h1:cV l.lo d=true)(h2:cV l.hi d'=true){k:Nat}{p:List Int}(hp:qC k p):rX n l p=some (jN l p,mV l p):=by
 obtain⟨a1,a2,a3⟩:=uX h1;obtain⟨b1,b2,b3⟩:=uX h2;have g1:=cP (show 0<l.lo.length by omega);have g2:=cP (show 0<l.hi.length by omega);refine Ev.eq ?_;unfold rX;refine aA (aM (i:=0) g1) (aA (aKe hn (a3 _ (cR g1)) hp) (aA (aM (i:=0) g2) (aA (aKe hn (b3 _ (cR g2)) hp) ?_)));refine Ev.loop (fun x:Int×Int=> ∃i:Nat,x.2=i∧1≤i∧i≤l.lo.length∧x.1=mx ((evs l.lo p).take i)) (fun x=>l.lo.length-x.2.toNat) ?_ n _ ⟨1,rfl,by omega,by omega,(aGD (mO g1)).symm⟩ (by dsimp only;omega);rintro again ⟨x,z⟩ ⟨i,hz,hi1,hi,hx⟩ hr;dsimp only at hz hx⊢;subst hz;refine aH (fun hlt=>?_) fun hge=>?_
 ·have g:=cP (show i<l.lo.length by omega);have e:=aH6 (mO (p:=p) g) hi1;refine Ev.jn (fun z=>z=mx ((evs l.lo p).take (i+1))) (fun j hj=>aA (aM g) (aA (aKe hn (a3 _ (cR g)) hp) (aH (fun h=>hj _ ?_) fun h=>hj _ ?_))) fun z hz=>?_
  ·rw [e,←hx];omega
  ·rw [e,←hx];omega
  rw [aO (by omega)];exact hr _ ⟨i+1,by dsimp only;omega,by omega,by omega,hz⟩ (by dsimp only;omega)
 have hie:i=l.lo.length:=by omega
 have hx':x=jN l p:=by rw [hx,hie,←U7 l.lo p,qG];rfl
 refine Ev.loop (fun x:Int×Int=> ∃i:Nat,x.2=i∧1≤i∧i≤l.hi.length∧x.1=mn ((evs l.hi p).take i)) (fun x=>l.hi.length-x.2.toNat) ?_ n _ ⟨1,rfl,by omega,by omega,(aGE (mO g2)).symm⟩ (by dsimp only;omega);rintro again2 ⟨y,z⟩ ⟨i,hz,hi1,hi,hy⟩ hr2;dsimp only at hz hy⊢;subst hz;refine aH (fun hlt=>?_) fun hge=>Ev.some ?_
 ·have g:=cP (show i<l.hi.length by omega);have e:=aH8 (mO (p:=p) g) hi1;refine Ev.jn (fun z=>z=mn ((evs l.hi p).take (i+1))) (fun j hj=>aA (aM g) (aA (aKe hn (b3 _ (cR g)) hp) (aH (fun h=>hj _ ?_) fun h=>hj _ ?_))) fun z hz=>?_
  ·rw [e,←hy];omega
  ·rw [e,←hy];omega
  rw [aO (by omega)];exact hr2 _ ⟨i+1,by dsimp only;omega,by omega,by omega,hz⟩ (by dsimp only;omega)
 have hie:i=l.hi.length:=by omega
 rw [hx',hy,hie,←U7 l.hi p,qG];rfl
theorem aI4{n:Nat}(hn:5000≤n){l:Loop}{d d':Int}(h1:cV l.lo d=true)(h2:cV l.hi d'=true){k:Nat}{p:List Int}(hp:qC k p):qR n l p=some (jN l p,mV l p):=by
 obtain⟨a1,a2,a3⟩:=uX h1;obtain⟨b1,b2,b3⟩:=uX h2;have g1:=cP (show 0<l.lo.length by omega);have g2:=cP (show 0<l.hi.length by omega);refine Ev.eq ?_;unfold qR;refine aA (aM (i:=0) g1) (aA (aI7 hn (a3 _ (cR g1)) hp) (aA (aM (i:=0) g2) (aA (aI7 hn (b3 _ (cR g2)) hp) ?_)));refine Ev.loop (fun x:Int×Int=> ∃i:Nat,x.2=i∧i≤l.lo.length∧x.1=mx ((evs l.lo p).take (max i 1))) (fun x=>l.lo.length-x.2.toNat) ?_ n _ ⟨0,rfl,by omega,(aGD (mO g1)).symm⟩ (by dsimp only;omega);rintro again ⟨x,z⟩ ⟨i,hz,hi,hx⟩ hr;dsimp only at hz hx⊢;subst hz;refine aH (fun hlt=>?_) fun hge=>?_
 ·have g:=cP (show i<l.lo.length by omega);refine aA (aM g) (aA (aI7 hn (a3 _ (cR g)) hp) ?_);rw [aO (by omega)];refine hr _ ⟨i+1,by dsimp only;omega,by omega,?_⟩ (by dsimp only;omega);dsimp only;rw [show max (i+1) 1=i+1 by omega];cases i with
  |zero=>rw [hx,show max 0 1=1 by rfl,m5,aGD (mO g)];omega
  |succ i=>rw [aH6 (mO (p:=p) g) (by omega),hx,show max (i+1) 1=i+1 by omega]
 have hie:i=l.lo.length:=by omega
 have hx':x=jN l p:=by rw [hx,hie,Nat.max_eq_left (by omega),←U7 l.lo p,qG];rfl
 refine Ev.loop (fun x:Int×Int=> ∃i:Nat,x.2=i∧i≤l.hi.length∧x.1=mn ((evs l.hi p).take (max i 1))) (fun x=>l.hi.length-x.2.toNat) ?_ n _ ⟨0,rfl,by omega,(aGE (mO g2)).symm⟩ (by dsimp only;omega);rintro again2 ⟨y,z⟩ ⟨i,hz,hi,hy⟩ hr2;dsimp only at hz hy⊢;subst hz;refine aH (fun hlt=>?_) fun hge=>Ev.some ?_
 ·have g:=cP (show i<l.hi.length by omega);refine aA (aM g) (aA (aI7 hn (b3 _ (cR g)) hp) ?_);rw [aO (by omega)];refine hr2 _ ⟨i+1,by dsimp only;omega,by omega,?_⟩ (by dsimp only;omega);dsimp only;rw [show max (i+1) 1=i+1 by omega];cases i with
  |zero=>rw [hy,show max 0 1=1 by rfl,m5,aGE (mO g)];omega
  |succ i=>rw [aH8 (mO (p:=p) g) (by omega),hy,show max (i+1) 1=i+1 by omega]
 have hie:i=l.hi.length:=by omega
 rw [hx',hy,hie,Nat.max_eq_left (by omega),←U7 l.hi p,qG];rfl
theorem T8{l:Loop}{d d':Int}(h1:cV l.lo d=true)(h2:cV l.hi d'=true){k:Nat}{p:List Int}(hp:qC k p)(hk:k≤3){v:Int}(hv:jN l p≤v∧v<mV l p):qC (k+1) (p++[v]):=by
 obtain⟨a1,a2,a3⟩:=uX h1;obtain⟨b1,b2,b3⟩:=uX h2;have e1: -(40*(100*40^k))≤jN l p:=by
  cases hl:l.lo with
  |nil=>rw [hl] at a1;simp at a1
  |cons a as=>
   have:=(aK2 (a3 a (by rw [hl];simp)) hp hk).1;unfold jN evs;rw [hl];exact Int.le_trans this (aNV _ _)
 have e2:mV l p≤40*(100*40^k):=by
  cases hl:l.hi with
  |nil=>rw [hl] at b1;simp at b1
  |cons a as=>
   have:=(aK2 (b3 a (by rw [hl];simp)) hp hk).2;unfold mV evs;rw [hl];exact Int.le_trans (aNW _ _) this
 obtain⟨p1,p2,p3⟩:=hp;have e3:(100*40^(k+1):Int)=40*(100*40^k):=by rw [Int.pow_succ];omega
 have q:=(Y9 (k:=k) (by omega)).1;refine⟨by simp [p1],by omega,fun x hx=>?_⟩;rw [e3];rcases xH.1 hx with h|h
 ·have:=p3 x h;simp only [xL] at this⊢;omega
 simp at h;subst h;simp only [xL];omega
def pts:List Loop→List Int→List (List Int)
 | [],p=>[p]
 |l::ls,p=>(kS (jN l p) (mV l p)).flatMap fun v=>pts ls (p++[v])
def wk:List Loop→List Int→Int
 | [],_=>1
 |l::ls,p=>1+((kS (jN l p) (mV l p)).map fun v=>wk ls (p++[v])).sum
theorem pB{α:Type}(f:α→Int): ∀(l:List α),(∀x∈l,1≤f x)→(l.length:Int)≤(l.map f).sum
 | [],_=>by simp
 |x::l,h=>by have h1:=pB f l fun y hy=>h y (by simp [hy]);have h2:=h x (by simp);simp only [List.map_cons,List.sum_cons,List.length_cons];omega
theorem aCT: ∀(ls:List Loop) (p:List Int),1≤wk ls p
 | [],p=>O3 _
 |l::ls,p=>by have:=pB (fun v=>wk ls (p++[v])) (kS (jN l p) (mV l p)) fun v _=>aCT ls _;simp only [wk];omega
def Fit(nest:List Loop):Prop:=nest.length≤4∧ ∀(i:Nat) l,nest[i]? =some l→cV l.lo (i:Int)=true∧cV l.hi (i:Int)=true
theorem aDv{nest:List Loop}(h:kY nest=true):Fit nest:=by
 simp only [kY,Bool.and_eq_true,decide_eq_true_eq] at h;refine⟨h.2,fun i l hl=>?_⟩
 have:=aAn h.1 hl;simpa [Bool.and_eq_true] using this
theorem xD{nest:List Loop}{k:Nat}{l:Loop}{ls:List Loop}(h:nest.drop k=l::ls):nest[k]? =some l∧nest.drop (k+1)=ls∧k<nest.length:=by
 have h1:(nest.drop k)[0]? =some l:=by rw [h];rfl
 rw [vAF,vBv] at h1;refine⟨h1,?_,(cZ.1 h1).1⟩
 have:(nest.drop k).drop 1=ls:=by rw [h];rfl
 rwa [List.drop_drop] at this
theorem G7{nest:List Loop}{k:Nat}(h:nest.drop k=[])(hk:k≤nest.length):k=nest.length:=by
 have:(nest.drop k).length=0:=by rw [h];rfl
 rw [vAV] at this;omega
theorem eQ(p:List Int)(h:p.length≤1000):app [] p=some p:=by rw [bW (by simp;omega)];rfl
theorem aEo(l:List Int)(f:Int→Int)(v:Int):((l++[v]).map f).sum=(l.map f).sum+f v:=by simp
theorem aMS{lo v:Int}(h:lo≤v):((kS lo v).length:Int)=v-lo:=by unfold kS;simp;omega
theorem aBS{nest:List Loop}(hf:Fit nest): ∀(ls:List Loop) (n k:Nat) (p:List Int) (most:Int),5000+ls.length≤n→nest.drop k=ls→k≤nest.length→qC k p→0≤most→most≤1200→
  Ev (s_l2Work n nest p most) (fun r=>(wk ls p≤most→r=wk ls p)∧(most<wk ls p→most<r)∧1≤r∧r≤most+1)
 | [],n,k,p,most,hn,hd,hk,hp,h0,h1=>by
  obtain⟨n,rfl⟩: ∃j,n=j+1:=⟨n-1,by omega⟩
  have hk':=G7 hd hk;have hpl:=hp.1;unfold s_l2Work;rw [decide_eq_true (show(p.length:Int)=(nest.length:Int) by omega)];exact Ev.some ⟨fun _=>rfl,fun h=>by simp only [wk] at h;omega,by omega,by omega⟩
 |l::ls,n,k,p,most,hn,hd,hk,hp,h0,h1=>by
  obtain⟨n,rfl⟩: ∃j,n=j+1:=⟨n-1,by omega⟩
  obtain⟨d1,d2,d3⟩:=xD hd;obtain⟨s1,s2⟩:=hf.2 k l d1;have hpl:=hp.1;have hk3:k≤3:=by have:=hf.1;omega
  simp only [List.length_cons] at hn;unfold s_l2Work;rw [decide_eq_false (show¬(p.length:Int)=(nest.length:Int) by omega)];refine cC (aA (x:=l) (by rw [hpl];exact aM d1) (aA (X6 (by omega) s1 s2 hp) ?_));let f:Int→Int:=fun v=>wk ls (p++[v]);have hfp: ∀v,1≤f v:=fun v=>aCT _ _;have hW:wk (l::ls) p=1+((kS (jN l p) (mV l p)).map f).sum:=rfl;refine Ev.loop (fun x:Int×Int=>jN l p≤x.2∧(x.2≤mV l p∨x.2=jN l p)∧(1+((kS (jN l p) x.2).map f).sum≤most→x.1=1+((kS (jN l p) x.2).map f).sum)∧(most<1+((kS (jN l p) x.2).map f).sum→most<x.1)∧1≤x.1∧x.1≤most+1)
   (fun x=>(most+1-x.1).toNat) ?_ n _ ⟨O3 _,.inr rfl,fun _=>by rw [jD (O3 _)];rfl,fun h=>by rw [jD (O3 _)] at h;simp at h;dsimp only;omega,by dsimp only;omega,by dsimp only;omega⟩ (by dsimp only;omega)
  rintro again ⟨x,v⟩ ⟨i1,i2,i3,i4,i5,i6⟩ hr;dsimp only at i1 i2 i3 i4 i5 i6⊢;refine Ev.jn (fun z=>z=decide (v<mV l p∧x≤most)) (fun j hj=>aH (fun h=>hj _ ?_) fun h=>hj _ ?_) fun z hz=>?_
  ·by_cases hx:x≤most
   ·rw [decide_eq_true hx,decide_eq_true ⟨h,hx⟩]
   rw [decide_eq_false hx,decide_eq_false fun h=>hx h.2]
  ·rw [decide_eq_false fun h'=>h h'.1]
  subst hz;refine aH (fun⟨hv,hx⟩=>?_) fun hno=>Ev.some ?_
  ·have hsum:x=1+((kS (jN l p) v).map f).sum:=i3 (by apply Int.not_lt.1;intro h;have:=i4 h;omega);have hp':=T8 s1 s2 hp hk3 ⟨i1,hv⟩;have e1:wr (most-x)=most-x:=by rw [aO (by omega)]
   rw [e1];refine aA (eQ p (by omega)) (aA (bW (by simp;omega)) (aN (aBS hf ls n (k+1) (p++[v]) (most-x) (by omega) d2 (by omega) hp' (by omega) (by omega)) fun r ⟨r1,r2,r3,r4⟩=>?_));have hvb:v<mV l p:=hv;have hvr: -1000000000≤v∧v≤1000000000:=by
    have h9:=hp'.2.2 v (by simp);have h8:=Y9 hp'.2.1;simp only [xL] at h9;omega
   rw [aO (n:=v+1) (by omega),aO (n:=x+r) (by omega)];have hs:1+((kS (jN l p) (v+1)).map f).sum=x+f v:=by rw [pG i1,aEo,hsum];omega
   refine hr _ ⟨by dsimp only;omega,.inl (by dsimp only;omega),?_,?_,by dsimp only;omega,by dsimp only;omega⟩ (by dsimp only;omega)
   ·dsimp only;rw [hs];intro h
    have:r=f v:=r1 (show f v≤most-x by omega);omega
   dsimp only;rw [hs];intro h
   have:most-x<r:=r2 (show most-x<f v by omega);omega
  have hmono:1+((kS (jN l p) v).map f).sum≤wk (l::ls) p∧(mV l p≤v→1+((kS (jN l p) v).map f).sum=wk (l::ls) p):=by
   rw [hW];by_cases h:v<mV l p
   ·refine⟨?_,fun h'=>by omega⟩;rw [wX i1 h,vAM,List.sum_append,vBT,List.sum_cons]
    have:=pB f (kS (v+1) (mV l p)) fun y _=>hfp y
    have:=hfp v;omega
   have:kS (jN l p) v=kS (jN l p) (mV l p):=by
    rcases i2 with h2|h2
    ·rw [show v=mV l p by omega]
    subst h2;rw [jD (O3 _),jD (by omega)]
   rw [this];exact⟨O3 _,fun _=>rfl⟩
  refine⟨fun h=>?_,fun h=>?_,i5,i6⟩
  ·have hx:=i3 (by omega);rw [hx];apply hmono.2;apply Int.not_lt.1;intro hv;exact hno ⟨hv,by omega⟩
  apply Int.not_le.1;intro hx;have hv:mV l p≤v:=by apply Int.not_lt.1;intro hv;exact hno ⟨hv,hx⟩
  have:=i4 (by rw [hmono.2 hv];exact h);omega
theorem uZ{nest:List Loop}(hf:Fit nest): ∀(ls:List Loop) (n k:Nat) (p:List Int) (out:List (List Int)),5000+ls.length≤n→nest.drop k=ls→k≤nest.length→qC k p→wk ls p≤1200→out.length≤120→
  Ev (s_l2Points n out nest p) (fun r=>(out.length+(pts ls p).length≤120→r=out++pts ls p)∧(120<out.length+(pts ls p).length→120<r.length))
 | [],n,k,p,out,hn,hd,hk,hp,h0,h1=>by
  obtain⟨n,rfl⟩: ∃j,n=j+1:=⟨n-1,by omega⟩
  have hk':=G7 hd hk;have hpl:=hp.1;have hf1:=hf.1;unfold s_l2Points;rw [decide_eq_true (show(p.length:Int)=(nest.length:Int) by omega)];refine cA (aA (eQ p (by omega)) (aA (bW (by simp;omega)) (Ev.some ⟨fun _=>rfl,fun h=>by simp [pts] at h ⊢; omega⟩)))
 |l::ls,n,k,p,out,hn,hd,hk,hp,h0,h1=>by
  obtain⟨n,rfl⟩: ∃j,n=j+1:=⟨n-1,by omega⟩
  obtain⟨d1,d2,d3⟩:=xD hd;obtain⟨s1,s2⟩:=hf.2 k l d1;have hpl:=hp.1;have hf1:=hf.1;have hk3:k≤3:=by omega
  simp only [List.length_cons] at hn;unfold s_l2Points;rw [decide_eq_false (show¬(p.length:Int)=(nest.length:Int) by omega)];refine cC (aA (x:=l) (by rw [hpl];exact aM d1) (aA (X6 (by omega) s1 s2 hp) ?_));let f:Int→Int:=fun v=>wk ls (p++[v]);have hfp: ∀v,1≤f v:=fun v=>aCT _ _;have hW:wk (l::ls) p=1+((kS (jN l p) (mV l p)).map f).sum:=rfl;let g:Int→List (List Int):=fun v=>pts ls (p++[v]);have hP:pts (l::ls) p=(kS (jN l p) (mV l p)).flatMap g:=rfl;have hlen:jN l p≤mV l p→mV l p-jN l p≤1199:=fun hle=>by
   have:=pB f (kS (jN l p) (mV l p)) fun y _=>hfp y
   have:=aMS hle;omega
  refine Ev.loop (fun x:List (List Int)×Int=>jN l p≤x.2∧(x.2≤mV l p∨x.2=jN l p)∧(out.length+((kS (jN l p) x.2).flatMap g).length≤120→x.1=out++(kS (jN l p) x.2).flatMap g)∧(120<out.length+((kS (jN l p) x.2).flatMap g).length→120<x.1.length))
   (fun x=>(mV l p-x.2).toNat) ?_ n _ ⟨O3 _,.inr rfl,fun _=>by rw [jD (O3 _)];simp,fun h=>by rw [jD (O3 _)] at h;simp at h;omega⟩ (by dsimp only;omega)
  rintro again ⟨x,v⟩ ⟨i1,i2,i3,i4⟩ hr;dsimp only at i1 i2 i3 i4⊢;refine Ev.jn (fun z=>z=decide (v<mV l p∧x.length≤120)) (fun j hj=>aH (fun h=>hj _ ?_) fun h=>hj _ ?_) fun z hz=>?_
  ·by_cases hx:x.length≤120
   ·rw [decide_eq_true (show(x.length:Int)≤120 by omega),decide_eq_true ⟨h,hx⟩]
   rw [decide_eq_false (show¬(x.length:Int)≤120 by omega),decide_eq_false fun h=>hx h.2]
  ·rw [decide_eq_false fun h'=>h h'.1]
  subst hz;refine aH (fun⟨hv,hx⟩=>?_) fun hno=>Ev.some ?_
  ·have hxe:x=out++(kS (jN l p) v).flatMap g:=i3 (by apply Nat.not_lt.1;intro h;have:=i4 h;omega);have hp':=T8 s1 s2 hp hk3 ⟨i1,hv⟩;have hwc:f v≤1200:=by
    rw [hW,wX i1 hv,vAM,List.sum_append,vBT,List.sum_cons] at h0
    have:=pB f (kS (v+1) (mV l p)) fun y _=>hfp y
    have:=pB f (kS (jN l p) v) fun y _=>hfp y;omega
   refine aA (eQ p (by omega)) (aA (bW (by simp;omega)) (aN (uZ hf ls n (k+1) (p++[v]) x (by omega) d2 (by omega) hp' hwc hx) fun r ⟨r1,r2⟩=>?_));have hvr: -1000000000≤v∧v≤1000000000:=by
    have h9:=hp'.2.2 v (by simp);have h8:=Y9 hp'.2.1;simp only [xL] at h9;omega
   rw [aO (n:=v+1) (by omega)];have hs:(kS (jN l p) (v+1)).flatMap g=(kS (jN l p) v).flatMap g++g v:=by rw [pG i1,vBb];simp
   refine hr _ ⟨by dsimp only;omega,.inl (by dsimp only;omega),?_,?_⟩ (by dsimp only;omega)
   ·dsimp only;rw [hs];intro h;simp only [List.length_append] at h;have hl:x.length=out.length+((kS (jN l p) v).flatMap g).length:=by rw [hxe,qA]
    rw [r1 (show x.length+(g v).length≤120 by omega),hxe,vAO]
   dsimp only;rw [hs];intro h;simp only [List.length_append] at h;have hl:x.length=out.length+((kS (jN l p) v).flatMap g).length:=by rw [hxe,qA]
   exact r2 (show 120<x.length+(g v).length by omega)
  have hmono:((kS (jN l p) v).flatMap g).length≤(pts (l::ls) p).length∧(mV l p≤v→(kS (jN l p) v).flatMap g=pts (l::ls) p):=by
   rw [hP];by_cases h:v<mV l p
   ·refine⟨?_,fun h'=>by omega⟩;rw [wX i1 h,vBb,qA];omega
   have:kS (jN l p) v=kS (jN l p) (mV l p):=by
    rcases i2 with h2|h2
    ·rw [show v=mV l p by omega]
    subst h2;rw [jD (O3 _),jD (by omega)]
   rw [this];exact⟨kL _,fun _=>rfl⟩
  refine⟨fun h=>?_,fun h=>?_⟩
  ·have hx:=i3 (by omega);rw [hx,hmono.2];apply Int.not_lt.1;intro hv;exact hno ⟨hv,by rw [hx,qA];omega⟩
  apply Nat.not_le.1;intro hx;have hv:mV l p≤v:=by apply Int.not_lt.1;intro hv;exact hno ⟨hv,hx⟩
  have:=i4 (by rw [hmono.2 hv];exact h);omega
theorem aCo{nest:List Loop}(hf:Fit nest): ∀(ls:List Loop) (n k:Nat) (p:List Int) (st:Int) (out:List (List Int)),5000+ls.length≤n→nest.drop k=ls→k≤nest.length→qC k p→0≤st→st≤1199→out.length≤120→
  Ev (i_walking_walk n ⟨nest,st,out⟩ p) (fun r=>(st+wk ls p≤1200∧out.length+(pts ls p).length≤120→r=(true,⟨nest,st+wk ls p-1,out++pts ls p⟩))∧(¬(st+wk ls p≤1200∧out.length+(pts ls p).length≤120)→r.1=false))
 | [],n,k,p,st,out,hn,hd,hk,hp,h0,h1,h2=>by
  obtain⟨n,rfl⟩: ∃j,n=j+1:=⟨n-1,by omega⟩
  have hk':=G7 hd hk;have hpl:=hp.1;have hf1:=hf.1;unfold i_walking_walk;dsimp only;rw [decide_eq_true (show(p.length:Int)=(nest.length:Int) by omega)];have hc:m_ownClone p=some p:=by unfold m_ownClone;rw [if_pos (by omega)]
  refine cA (aA hc (aA (bW (by simp;omega)) (Ev.some ⟨fun h=>?_,fun h=>?_⟩)))
  ·simp only [wk,pts,List.length_singleton] at h⊢;rw [decide_eq_true (by simp;omega),show st+1-1=st by omega]
  simp only [wk,pts,List.length_singleton] at h⊢;exact decide_eq_false (by simp;omega)
 |l::ls,n,k,p,st,out,hn,hd,hk,hp,h0,h1,h2=>by
  obtain⟨n,rfl⟩: ∃j,n=j+1:=⟨n-1,by omega⟩
  obtain⟨d1,d2,d3⟩:=xD hd;obtain⟨s1,s2⟩:=hf.2 k l d1;have hpl:=hp.1;have hf1:=hf.1;have hk3:k≤3:=by omega
  simp only [List.length_cons] at hn;unfold i_walking_walk;dsimp only;rw [decide_eq_false (show¬(p.length:Int)=(nest.length:Int) by omega)];refine cC (aA (x:=l) (by rw [hpl];exact aM d1) (aA (aI4 (by omega) s1 s2 hp) ?_));let f:Int→Int:=fun v=>wk ls (p++[v]);have hfp: ∀v,1≤f v:=fun v=>aCT _ _;have hW:wk (l::ls) p=1+((kS (jN l p) (mV l p)).map f).sum:=rfl;let g:Int→List (List Int):=fun v=>pts ls (p++[v]);have hP:pts (l::ls) p=(kS (jN l p) (mV l p)).flatMap g:=rfl;refine Ev.loop (fun x:List Loop×Int×List (List Int)×Int=>x.1=nest∧jN l p≤x.2.2.2∧(x.2.2.2≤mV l p∨x.2.2.2=jN l p)∧x.2.1=st+((kS (jN l p) x.2.2.2).map f).sum∧x.2.2.1=out++(kS (jN l p) x.2.2.2).flatMap g∧0≤x.2.1∧x.2.1≤1199∧x.2.2.1.length≤120)
   (fun x=>(1200-x.2.1).toNat) ?_ n _ ⟨rfl,O3 _,.inr rfl,by dsimp only;rw [jD (O3 _)];simp,by dsimp only;rw [jD (O3 _)];simp,h0,h1,h2⟩ (by dsimp only;omega)
  rintro again ⟨nst,x,o,v⟩ ⟨i0,i1,i2,i3,i4,i5,i6,i7⟩ hr;dsimp only at i0 i1 i2 i3 i4 i5 i6 i7⊢;subst i0;have hol:o.length=out.length+((kS (jN l p) v).flatMap g).length:=by rw [i4,qA]
  refine aH (fun hv=>?_) fun hv=>Ev.some ?_
  ·have hp':=T8 s1 s2 hp hk3 ⟨i1,hv⟩;have hrest:wk (l::ls) p≥1+((kS (jN l p) v).map f).sum+f v∧(pts (l::ls) p).length≥((kS (jN l p) v).flatMap g).length+(g v).length:=by
    rw [hW,hP,wX i1 hv,vAM,List.sum_append,vBT,List.sum_cons,vBb,qA,vBD,qA]
    have:=pB f (kS (v+1) (mV l p)) fun y _=>hfp y;constructor
    ·omega
    omega
   have hvr: -1000000000≤v∧v≤1000000000:=by
    have h9:=hp'.2.2 v (by simp);have h8:=Y9 hp'.2.1;simp only [xL] at h9;omega
   have e1:wr (x+1)=x+1:=by rw [aO (by omega)]
   have e2:wr (x+1+1)=x+1+1:=by rw [aO (by omega)]
   have e3:wr (v+1)=v+1:=by rw [aO (by omega)]
   rw [e1,e2,e3];refine Ev.jn (fun z:List Loop×Int×List (List Int)×Bool=>(z.2.2.2=false→z.1=nst∧x+f v≤1199∧o.length+(g v).length≤120∧z.2.1=x+f v∧z.2.2.1=o++g v)∧(z.2.2.2=true→ ¬(st+wk (l::ls) p≤1200∧out.length+(pts (l::ls) p).length≤120)))
    (fun j hj=>aH (fun h=>hj _ ⟨fun h'=>(by cases h'),fun _=>?_⟩) fun h=>?_) fun z hz=>?_
   ·have:=hfp v;omega
   ·have hc:m_ownClone p=some p:=by unfold m_ownClone;rw [if_pos (by omega)]
    refine aA hc (aA (bW (by simp;omega)) (aN (aCo hf ls n (k+1) (p++[v]) (x+1) o (by omega) d2 (by omega) hp' (by omega) (by omega) i7) fun r ⟨r1,r2⟩=>?_));by_cases hc:x+1+f v≤1200∧o.length+(g v).length≤120
    ·rw [r1 hc];exact hj _ ⟨fun _=>⟨rfl,by omega,hc.2,show x+1+f v-1=x+f v by omega,rfl⟩,fun h=>(by cases h)⟩
    have hr1:=r2 hc;obtain⟨rb,⟨rn,rs,ro⟩⟩:=r;dsimp only at hr1⊢;subst hr1;exact hj _ ⟨fun h=>(by cases h),fun _=>by omega⟩
   obtain⟨za,zb,zc,zd⟩:=z;obtain⟨z2,z3⟩:=hz;dsimp only at z2 z3⊢;cases zd with
   |true=>exact Ev.some ⟨fun h=>absurd h (z3 rfl),fun _=>rfl⟩
   |false=>
    obtain⟨rfl,y1,y2,y3,y4⟩:=z2 rfl;refine hr _ ⟨rfl,by dsimp only;omega,.inl (by dsimp only;omega),?_,?_,by dsimp only;have:=hfp v;omega,by dsimp only;omega,?_⟩ (by dsimp only;have:=hfp v;omega)
    ·dsimp only;rw [pG i1,aEo,y3,i3];omega
    ·dsimp only;rw [y4,i4,pG i1,vBb];simp
    dsimp only;rw [y4,qA];exact y2
  have:kS (jN l p) v=kS (jN l p) (mV l p):=by
   rcases i2 with h2|h2
   ·rw [show v=mV l p by omega]
   subst h2;rw [jD (O3 _),jD (by omega)]
  rw [this] at i3 i4 hol;rw [←hP] at i4 hol;refine⟨fun h=>?_,fun h=>?_⟩
  ·rw [i4,i3,hW,show st+(1+((kS (jN l p) (mV l p)).map f).sum)-1=st+((kS (jN l p) (mV l p)).map f).sum by omega]
  exact absurd ⟨by omega,by omega⟩ h
def NP(nest:List Loop):Option (List (List Int)):=if kY nest=true∧wk nest []≤1200∧(pts nest []).length≤120 then some (pts nest []) else none
def aG5:Option (List (List Int))→List (List Int)×Bool
 |none=>([],false)
 |some l=>(l,true)
theorem pt0:qC 0 []:=⟨rfl,by omega,fun x h=>by cases h⟩
theorem R5{n:Nat}(hn:6000≤n){nest:List Loop}(h:SmN nest):nS n nest=some (aG5 (NP nest)):=by
 refine Ev.eq ?_;unfold nS;refine aA (aAt (by omega) h) ?_;unfold NP;cases hv:kY nest with
 |false=>exact Ev.some (by simp [aG5])
 |true=>
  have hf:=aDv hv;refine aN (aCo hf nest n 0 [] 0 [] (by have:=hf.1;omega) rfl (by omega) pt0 (by omega) (by omega) (by simp)) fun r ⟨r1,r2⟩=>?_;by_cases hc:(0:Int)+wk nest []≤1200∧([]:List (List Int)).length+(pts nest []).length≤120
  ·rw [r1 hc,if_pos ⟨rfl,by omega,by simpa using hc.2⟩];exact Ev.some (by simp [aG5])
  rw [r2 hc,if_neg fun h=>hc ⟨by omega,by simpa using h.2.2⟩];exact Ev.some rfl
theorem R0{n:Nat}(hn:6000≤n){nest:List Loop}(h:SmN nest):nJ n nest=some (aG5 (NP nest)):=by
 refine Ev.eq ?_;unfold nJ;refine Ev.jn (fun z=>z= !(kY nest&&decide (wk nest []≤1200))) (fun j hj=>aA (Y0 (by omega) h) ?_) fun z hz=>?_
 ·cases hv:kY nest with
  |false=>exact hj _ (by rw [hv];rfl)
  |true=>
   have hf:=aDv hv;refine aN (aBS hf nest n 0 [] 1200 (by have:=hf.1;omega) rfl (by omega) pt0 (by omega) (by omega)) fun r ⟨r1,r2,r3,r4⟩=>hj _ ?_;rw [hv,vBa];by_cases hw:wk nest []≤1200
   ·rw [decide_eq_true hw,decide_eq_false (by rw [r1 hw];omega)];rfl
   rw [decide_eq_false hw,decide_eq_true (r2 (by omega))];rfl
 subst hz;unfold NP;cases hv:kY nest with
 |false=>exact Ev.some (by simp [aG5])
 |true=>
  have hf:=aDv hv;by_cases hw:wk nest []≤1200
  ·rw [decide_eq_true hw];refine aN (uZ hf nest n 0 [] [] (by have:=hf.1;omega) rfl (by omega) pt0 hw (by simp)) fun r ⟨r1,r2⟩=>?_;by_cases hl:(pts nest []).length≤120
   ·rw [r1 (by simpa using hl),if_pos ⟨rfl,hw,hl⟩];refine aH (fun h=>absurd h (by simp;omega)) fun _=>Ev.some (by simp [aG5])
   have:=r2 (by simp;omega);rw [if_neg fun h=>hl h.2.2];exact aH (fun _=>Ev.some rfl) fun h=>absurd h (by omega)
  rw [decide_eq_false hw,if_neg fun h=>hw h.2.1];exact Ev.some rfl
def pH(s:List UInt8):Bool:=match s with
 | [b]=>decide (65≤b.toNat∧b.toNat≤68)
 |_=>false
theorem yR{s:List UInt8}(h:s.length≠1):pH s=false:=by
 match s,h with
 | [],_=>rfl
 | [b],h=>exact absurd rfl h
 |_::_::_,_=>rfl
theorem aOM{s:List UInt8}(h:s.length=1): ∃b,s=[b]:=by
 match s,h with
 | [b],_=>exact⟨b,rfl⟩
theorem aJP(b:UInt8)(k:Nat)(hk:k<256):(b=UInt8.ofNat k)↔b.toNat=k:=by
 constructor
 ·intro h;rw [h];simp;omega
 intro h;rw [←h];simp
theorem aBA(b:UInt8):Lib.contains [65,66,67,68] [b]=decide (65≤b.toNat∧b.toNat≤68):=by
 have e1:(b=65)↔b.toNat=65:=aJP b 65 (by omega);have e2:(b=66)↔b.toNat=66:=aJP b 66 (by omega);have e3:(b=67)↔b.toNat=67:=aJP b 67 (by omega);have e4:(b=68)↔b.toNat=68:=aJP b 68 (by omega);by_cases h1:b=65
 ·subst h1;decide
 by_cases h2:b=66
 ·subst h2;decide
 by_cases h3:b=67
 ·subst h3;decide
 by_cases h4:b=68
 ·subst h4;decide
 rw [e1] at h1;rw [e2] at h2;rw [e3] at h3;rw [e4] at h4;rw [decide_eq_false (by omega)];rw [←e1] at h1;rw [←e2] at h2;rw [←e3] at h3;rw [←e4] at h4;simp [Lib.contains,Lib.index,h1,h2,h3,h4]
theorem F9(n:Nat)(s:List UInt8):sH n s=some (pH s):=by
 unfold sH;by_cases h:s.length=1
 ·obtain⟨b,rfl⟩:=aOM h;simp only [jn,m_contains];rw [if_pos (by simp),aBA];rfl
 rw [decide_eq_false (show¬(s.length:Int)=1 by omega),yR h];rfl
theorem aAg(b:UInt8):Op.bytesLess [b] [65]=decide (b.toNat<65):=by simp [Op.bytesLess,UInt8.lt_iff_toNat_lt]
theorem aAf(b:UInt8):(Op.bytesLess [b] [68]||[b]==[68])=decide (b.toNat≤68):=by
 have e:(b=68)↔b.toNat=68:=aJP b 68 (by omega);by_cases h:b=68
 ·subst h;decide
 have h':b.toNat≠68:=fun e'=>h (e.2 e')
 have:([b]==[(68:UInt8)])=false:=by simp [h]
 rw [this,Bool.or_false];simp only [Op.bytesLess,Bool.and_false,Bool.or_false,UInt8.lt_iff_toNat_lt];apply decide_eq_decide.2;show b.toNat<68↔_;omega
def iC(a:Access)(d:Int):Bool:=a.subs.all (fun x=>b8 x d)&&(pH a.array&&decide (1≤a.subs.length∧a.subs.length≤2))
theorem aI9{n:Nat}(hn:5000≤n){a:Affine}(ha:SmA a)(d:Int):lC n a d=some (!b8 a d):=aAr hn ha d
theorem xW{n:Nat}(hn:5000≤n){a:Access}(ha:S7 a.subs)(d:Int):pN n a d=some (iC a d):=by
 obtain⟨h0,h1⟩:=ha;unfold pN;rw [F9,tM];have hc:=kF (n:=n) (f:=fun q0=>lC n q0 d) (p:=fun a=> !b8 a d) (l:=a.subs) (fun x hx=>aI9 hn (h1 x hx) d) (by omega) (by omega);simp only [jn,Option.bind];rw [hc];unfold iC;have e:(a.subs.any fun a=> !b8 a d)= !(a.subs.all fun a=>b8 a d):=by
  rw [vAZ];simp
 rw [e];cases pH a.array<;>cases decide (1≤a.subs.length∧a.subs.length≤2)<;>simp
theorem xS{n:Nat}(hn:5000≤n){a:Access}(ha:S7 a.subs)(d:Int):pD n a d=some (iC a d):=by
 obtain⟨h0,h1⟩:=ha;refine Ev.eq ?_;unfold pD;refine oH (l:=a.subs) (p:=fun _ a=>b8 a d) (by omega) (by omega) (fun again i x hx hgo hno=>?_) (fun again hall=>?_) (fun⟨i,x,hx,hp⟩=>?_)
 ·have hi:=(cZ.1 hx).1;have hm:=h1 x (cR hx);rw [decide_eq_true (show(i:Int)<(a.subs.length:Int) by omega)];refine cA (Ev.jn (fun z=>z= !b8 x d) (fun j hj=>aA (aM hx) (aA (lT hn x hm) ?_)) fun z hz=>?_)
  ·cases ha:bY x with
   |false=>exact hj _ (by unfold b8;rw [ha];rfl)
   |true=>exact aA (yJ hn hm) (hj _ (by unfold b8;rw [ha,ltd];simp))
  subst hz;cases hb:b8 x d with
  |true=>show Ev (again _) _;rw [aO (by omega)];exact hgo hb
  |false=>exact Ev.some (hno hb)
 ·rw [decide_eq_false (show¬(a.subs.length:Int)<(a.subs.length:Int) by omega)];have e:a.subs.all (fun a=>b8 a d)=true:=V9.2 fun c hc=>by obtain⟨i,hi⟩:=vAK hc;exact hall i c hi
  unfold iC;rw [e,vBa];refine cC (Ev.jn (fun z=>z=(pH a.array&&decide (1≤a.subs.length∧a.subs.length≤2))) (fun j hj=>?_) fun z hz=>Ev.some hz);by_cases h:a.array.length=1
  ·rw [decide_eq_true (show(a.array.length:Int)=1 by omega)];obtain⟨b,hb⟩:=aOM h;rw [hb] at hj⊢;rw [aAg,aAf];show Ev (bif _ then _ else _) _;simp only [pH] at hj⊢;by_cases g1:b.toNat<65
   ·rw [decide_eq_true g1];exact hj _ (by rw [decide_eq_false (show¬(65≤b.toNat∧b.toNat≤68) by omega)];rfl)
   rw [decide_eq_false g1];by_cases g2:b.toNat≤68
   ·rw [decide_eq_true g2];rw [decide_eq_true (show 65≤b.toNat∧b.toNat≤68 by omega)] at hj⊢;refine aH (fun h=>hj _ ?_) fun h=>hj _ ?_
    ·by_cases h2:a.subs.length≤2
     ·rw [decide_eq_true (show(a.subs.length:Int)≤2 by omega),decide_eq_true (by omega)];rfl
     rw [decide_eq_false (show¬(a.subs.length:Int)≤2 by omega),decide_eq_false (by omega)];rfl
    rw [decide_eq_false (by omega)];rfl
   rw [decide_eq_false g2];exact hj _ (by rw [decide_eq_false (show¬(65≤b.toNat∧b.toNat≤68) by omega)];rfl)
  rw [decide_eq_false (show¬(a.array.length:Int)=1 by omega)];exact hj _ (by rw [yR h];rfl)
 unfold iC;rw [vAL.2 ⟨x,cR hx,by rw [hp];simp⟩];rfl
def jW(a:Affine):Bool:=decide (a.coefs.length=0)&&decide (a.const=0)
def nD(a:Access):Bool:=decide (a.array=[])&&decide (a.subs.length=0)
theorem aM8(k:Nat):decide ((k:Int)=0)=decide (k=0):=decide_eq_decide.2 (by omega)
theorem aBw(n:Nat)(a:Affine):pJ n a=some (jW a):=by unfold pJ jW;rw [aM8];cases decide (a.coefs.length=0)<;>rfl
theorem aEt(n:Nat)(a:Affine):rV n a=some (jW a):=by unfold rV jW;rw [aM8];cases decide (a.coefs.length=0)<;>rfl
theorem aBx(n:Nat)(a:Access):kK n a=some (nD a):=by unfold kK nD;rw [aM8];cases decide (a.array=[])<;>rfl
theorem aC6(n:Nat)(a:Access):oP n a=some (nD a):=by unfold oP nD;rw [aM8];cases decide (a.array=[])<;>rfl
def gD(e:Expr)(d:Int):Bool:=
 if e.kind=2 then decide (e.num=0)&&(nD e.read&&b8 e.index d)
 else if e.kind=3 then decide (e.num=0)&&(jW e.index&&iC e.read d)
 else if e.kind=1 then decide (0≤e.num∧e.num≤99)&&(jW e.index&&nD e.read)
 else decide (e.num=0)&&(jW e.index&&nD e.read)
def iL(k:Int):Int:=if k=1∨k=2∨k=3 then 0 else if k=4∨k=5∨k=6 then 2 else-1
theorem aEu(n:Nat)(k:Int):C5 n k=some (iL k):=by
 unfold C5 iL;by_cases h1:k=1
 ·subst h1;rfl
 by_cases h2:k=2
 ·subst h2;rfl
 by_cases h3:k=3
 ·subst h3;rfl
 by_cases h4:k=4
 ·subst h4;rfl
 by_cases h5:k=5
 ·subst h5;rfl
 by_cases h6:k=6
 ·subst h6;rfl
 simp [jn,h1,h2,h3,h4,h5,h6]
theorem aGi{n:Nat}(hn:5000≤n){e:Expr}(h1:SmA e.index)(h2:S7 e.read.subs)(d:Int):T6 n e d=some (gD e d):=by
 unfold T6 gD;rw [aC6,aEt,lT hn _ h1,yJ hn h1,xS hn h2];by_cases k2:e.kind=2
 ·rw [if_pos k2,decide_eq_true k2];simp only [jn,Option.bind,cond_true,b8];cases decide (e.num=0)<;>cases nD e.read<;>cases bY e.index<;>simp
 rw [if_neg k2,decide_eq_false k2];by_cases k3:e.kind=3
 ·rw [if_pos k3,decide_eq_true k3];simp only [jn,Option.bind,cond_true,cond_false];cases decide (e.num=0)<;>cases jW e.index<;>simp
 rw [if_neg k3,decide_eq_false k3];by_cases k1:e.kind=1
 ·rw [if_pos k1,decide_eq_true k1];simp only [jn,Option.bind,cond_true,cond_false];by_cases g1:0≤e.num<;>by_cases g2:e.num≤99<;>cases jW e.index<;>simp [g1,g2]
 rw [if_neg k1,decide_eq_false k1];simp only [jn,Option.bind,cond_false];cases decide (e.num=0)<;>cases jW e.index<;>simp
end Go.Lift
