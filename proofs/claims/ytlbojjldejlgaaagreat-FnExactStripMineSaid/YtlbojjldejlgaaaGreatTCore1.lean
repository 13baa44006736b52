/- Plain facts on sums of products, on ranges, on the points of a nest. -/
import Derived.Test.YtlbojjldejlgaaaGreatTLawDraw
set_option maxRecDepth 110000000
set_option linter.unusedVariables false
namespace Go.Lift
open Go
def dot:List Int→List Int→Int
 |c::cs,x::xs=>c*x+dot cs xs
 |_,_=>0
def nU(m:Int)(x:Int):Prop:= -m≤x∧x≤m
theorem aFj{a b c x:Int}(ha:0≤a)(hb:0≤b)(h1:nU a c)(h2:nU b x):nU (a*b) (c*x):=by
 obtain⟨p1,p2⟩:=h1;obtain⟨q1,q2⟩:=h2;constructor
 ·have h:=vBj (show 0≤a+c by omega) (show 0≤b+x by omega);have k:=vBj (show 0≤a-c by omega) (show 0≤b-x by omega);have e1:(a+c)*(b+x)=a*b+a*x+c*b+c*x:=by rw [Int.add_mul,Int.mul_add,Int.mul_add];omega
  have e2:(a-c)*(b-x)=a*b-a*x-c*b+c*x:=by rw [Int.sub_mul,Int.mul_sub,Int.mul_sub];omega
  rw [e1] at h;rw [e2] at k;omega
 have h:=vBj (show 0≤a+c by omega) (show 0≤b-x by omega);have k:=vBj (show 0≤a-c by omega) (show 0≤b+x by omega);have e1:(a+c)*(b-x)=a*b-a*x+c*b-c*x:=by rw [Int.add_mul,Int.mul_sub,Int.mul_sub];omega
 have e2:(a-c)*(b+x)=a*b+a*x-c*b-c*x:=by rw [Int.sub_mul,Int.mul_add,Int.mul_add];omega
 rw [e1] at h;rw [e2] at k;omega
theorem aBh(cs:List Int):dot cs []=0:=by cases cs<;>rfl
theorem aCA: ∀{cs xs:List Int} {c x:Int},cs[xs.length]? =some c→dot cs (xs++[x])=dot cs xs+c*x
 | [],xs,c,x,h=>by simp at h
 |d::cs,[],c,x,h=>by simp at h;subst h;simp [dot,aBh]
 |d::cs,y::xs,c,x,h=>by
  have h:cs[xs.length]? =some c:=by simpa using h
  simp only [List.cons_append,dot];rw [aCA h];omega
theorem aCz{cs xs:List Int}{i:Nat}{c x:Int}(hc:cs[i]? =some c)(hx:xs[i]? =some x):dot cs (xs.take (i+1))=dot cs (xs.take i)+c*x:=by have hi:=(cC.1 hx).1;rw [R5,hx];exact aCA (by simpa [Nat.min_eq_left (Nat.le_of_lt hi)] using hc)
theorem aIF{M:Int}(hM:0≤M): ∀{cs xs:List Int},(∀c∈cs,nU 9 c)→(∀x∈xs,nU M x)→nU (9*M*xs.length) (dot cs xs)
 | [],xs,_,_=>by
  have:0≤9*M*(xs.length:Int):=vBj (by omega) (by omega);simp only [dot,nU];omega
 |d::cs,[],_,_=>by simp [dot,nU]
 |d::cs,y::xs,hc,hx=>by
  have h1:=aIF hM (cs:=cs) (xs:=xs) (fun c h=>hc c (by simp [h])) fun x h=>hx x (by simp [h]);have h2:=aFj (by omega) hM (hc d (by simp)) (hx y (by simp));have e:9*M*((y::xs).length:Int)=9*M*(xs.length:Int)+9*M:=by simp [Int.mul_add]
  rw [e];simp only [dot,nU] at*;omega
def kV(lo hi:Int):List Int:=(List.range (hi-lo).toNat).map (fun(i:Nat)=>lo+(i:Int))
theorem aJS{lo hi v:Int}:v∈kV lo hi↔lo≤v∧v<hi:=by
 simp only [kV,List.mem_map,List.mem_range];constructor
 ·rintro⟨i,hi,rfl⟩;omega
 intro h;exact⟨(v-lo).toNat,by omega,by omega⟩
theorem iF{lo hi:Int}(h:hi≤lo):kV lo hi=[]:=by unfold kV;rw [show(hi-lo).toNat=0 by omega];rfl
theorem nI{lo hi:Int}(h:lo≤hi):kV lo (hi+1)=kV lo hi++[hi]:=by unfold kV;rw [show(hi+1-lo).toNat=(hi-lo).toNat+1 by omega,List.range_succ,vAP];simp;omega
theorem uD{lo v hi:Int}(h1:lo≤v)(h2:v<hi):kV lo hi=kV lo v++v::kV (v+1) hi:=by
 obtain⟨k,hk⟩: ∃k:Nat,hi=v+1+k:=⟨(hi-v-1).toNat,by omega⟩
 subst hk;clear h2;induction k with
 |zero=>
  rw [show v+1+((0:Nat):Int)=v+1 by omega,nI h1,iF (X3 _)]
 |succ k ih=>
  rw [show v+1+((k+1:Nat):Int)=v+1+(k:Int)+1 by omega,nI (by omega),ih,nI (by omega)];simp
theorem H2{α:Type}{f:α→Option Bool}{p:α→Bool}{l:List α}(hf: ∀x∈l,f x=some (p x)){n:Nat}(hl:l.length<n)(hl2:l.length≤500000000):
  ∃r:Int,aL (fun again2 (x1:Int)=>bif decide (x1<(l.length:Int)) then(Option.bind (ix l x1) fun x3=>Option.bind (f x3) fun x4=>bif x4 then(some x1) else(again2 (wr (x1+1)))) else(some (-1))) n 0=some r∧decide (0≤r)=l.any p:=by
 suffices h:Ev (aL (fun again2 (x1:Int)=>bif decide (x1<(l.length:Int)) then(Option.bind (ix l x1) fun x3=>Option.bind (f x3) fun x4=>bif x4 then(some x1) else(again2 (wr (x1+1)))) else(some (-1))) n 0) (fun r=>decide (0≤r)=l.any p) by exact h
 refine Ev.loop (fun x:Int=>0≤x∧x≤l.length∧(l.take x.toNat).any p=false) (fun x:Int=>l.length-x.toNat) ?_ n 0 ⟨by omega,by omega,by simp⟩ (by simp;omega);rintro again x ⟨h0,h1,h2⟩ hr;refine aK (fun hlt=>?_) fun hge=>?_
 ·obtain⟨y,hy,hy2⟩:=aAb h0 hlt;have hm:=dD hy2;refine aB hy (aB (hf y hm) (Ev.cond (fun ht=>Ev.some ?_) fun hfl=>?_))
  ·rw [show l.any p=true from vBv.2 ⟨y,hm,ht⟩];simp [h0]
  rw [aM (by omega)];refine hr _ ⟨by omega,by omega,?_⟩ (by omega);rw [show(x+1).toNat=x.toNat+1 by omega,R5,hy2];simp [h2,hfl]
 refine Ev.some ?_;have hx:x.toNat=l.length:=by omega
 rw [hx,wQ] at h2;rw [h2];simp
theorem rC{f:Int→Option Bool}{p:Int→Bool}{l:List Int}(hf: ∀x∈l,f x=some (p x)){n:Nat}(hl:l.length<n)(hl2:l.length≤500000000):bU n l f=some (l.any p):=by obtain⟨r,h1,h2⟩:=H2 hf hl hl2;unfold bU mA;rw [h1,←h2];rfl
theorem mC{f:Affine→Option Bool}{p:Affine→Bool}{l:List Affine}(hf: ∀x∈l,f x=some (p x)){n:Nat}(hl:l.length<n)(hl2:l.length≤500000000):bZ n l f=some (l.any p):=by obtain⟨r,h1,h2⟩:=H2 hf hl hl2;unfold bZ fP;rw [h1,←h2];rfl
theorem T9{f:Stmt→Option Bool}{p:Stmt→Bool}{l:List Stmt}(hf: ∀x∈l,f x=some (p x)){n:Nat}(hl:l.length<n)(hl2:l.length≤500000000):eZ n l f=some (l.any p):=by obtain⟨r,h1,h2⟩:=H2 hf hl hl2;unfold eZ kZ;rw [h1,←h2];rfl
theorem E7{f:Access→Option Bool}{p:Access→Bool}{l:List Access}(hf: ∀x∈l,f x=some (p x)){n:Nat}(hl:l.length<n)(hl2:l.length≤500000000):eC n l f=some (l.any p):=by obtain⟨r,h1,h2⟩:=H2 hf hl hl2;unfold eC i8;rw [h1,←h2];rfl
theorem mY{α:Type}{l:List α}{p:Nat→α→Bool}{Q:Bool→Prop}{body:(Int→Option Bool)→Int→Option Bool}{n:Nat}(hl:l.length<n)(hl2:l.length≤500000000)
  (hstep: ∀again (i:Nat) x,l[i]? =some x→(p i x=true→Ev (again ((i:Int)+1)) Q)→(p i x=false→Q false)→Ev (body again (i:Int)) Q)
  (hend: ∀again,(∀(i:Nat) x,l[i]? =some x→p i x=true)→Ev (body again (l.length:Int)) Q) (hbad:(∃(i:Nat) (x:α),l[i]? =some x∧p i x=false)→Q false):Ev (aL body n 0) Q:=by
 refine Ev.loop (fun x:Int=> ∃i:Nat,x=i∧i≤l.length∧ ∀(j:Nat) y,j<i→l[j]? =some y→p j y=true) (fun x:Int=>l.length-x.toNat) ?_ n 0 ⟨0,rfl,by omega,fun j y h=>by omega⟩ (by simp;omega);rintro again x ⟨i,rfl,hi,ha⟩ hr;by_cases hlt:i<l.length
 ·have hx:=dH hlt;refine hstep again i _ hx (fun hp=>hr _ ⟨i+1,by omega,by omega,fun j y hj hy=>?_⟩ (by omega)) fun hp=>hbad ⟨i,_,hx,hp⟩;by_cases hji:j=i
  ·subst hji;rw [hx] at hy;cases hy;exact hp
  exact ha j y (by omega) hy
 have hil:i=l.length:=by omega
 subst hil;exact hend again fun j y hy=>ha j y (cC.1 hy).1 hy
def bO(a:Affine):Bool:=decide (a.coefs.length=4)&&(decide (-99≤a.const∧a.const≤99)&&a.coefs.all fun c=>decide (-9≤c∧c≤9))
theorem fT{a:Affine}(h:bO a=true):a.coefs.length=4∧nU 99 a.const∧ ∀c∈a.coefs,nU 9 c:=by simp only [bO,Bool.and_eq_true,decide_eq_true_eq,List.all_eq_true] at h;exact⟨h.1,h.2.1,h.2.2⟩
theorem dV(n:Nat)(x a b:Int):b8 n x a b=some (decide (a≤x∧x≤b)):=by unfold b8;by_cases h1:a≤x<;>by_cases h2:x≤b<;>simp [jn,h1,h2]
theorem pN{n:Nat}(hn:5500000≤n)(a:Affine)(ha:a.coefs.length≤1100000):gF n a=some (bO a):=by
 have hf: ∀x∈a.coefs,fY n x=some (!decide (-9≤x∧x≤9)):=fun x _=>by unfold fY;rw [dV];rfl
 have hc:=rC (n:=n) hf (by omega) (by omega);unfold gF z6;rw [dV];simp only [jn,Option.bind];rw [hc];unfold bO;have e:(a.coefs.any fun x=> !decide (-9≤x∧x≤9))= !(a.coefs.all fun c=>decide (-9≤c∧c≤9)):=by
  rw [vAZ];simp
 rw [e];by_cases h1:a.coefs.length=4
 ·rw [decide_eq_true (show(a.coefs.length:Int)=4 by omega),decide_eq_true h1];generalize decide (-99≤a.const∧a.const≤99)=b;cases b<;>simp
 rw [decide_eq_false (show¬(a.coefs.length:Int)=4 by omega),decide_eq_false h1];rfl
theorem sM(n:Nat)(x m:Int)(hm:0≤m∧m≤1000000000):kO n x m=some (decide (-m≤x∧x≤m)):=by
 unfold kO;rw [aM (by omega)];by_cases h1: -m≤x<;>by_cases h2:x≤m
 ·simp [jn,h1,h2]
 ·simp [jn,h1,h2]
 ·simp [jn,h1,h2]
 simp [jn,h1,h2]
theorem kU{n:Nat}(hn:5500000≤n)(a:Affine)(ha:a.coefs.length≤1100000):f9 n a=some (bO a):=by
 refine Ev.eq ?_;unfold f9;refine mY (l:=a.coefs) (p:=fun _ c=>decide (-9≤c∧c≤9)) (by omega) (by omega) (fun again i x hx hgo hno=>?_) (fun again hall=>?_) (fun⟨i,x,hx,hp⟩=>?_)
 ·rw [decide_eq_true (show(i:Int)<(a.coefs.length:Int) by have:=(cC.1 hx).1;omega)];refine aB (aS hx) (aB (sM n x 9 (by omega)) ?_);have hi:=(cC.1 hx).1;cases hp:decide (-9≤x∧x≤9) with
  |true=>show Ev (again _) _;rw [aM (by omega)];exact hgo hp
  |false=>exact Ev.some (hno hp)
 ·rw [decide_eq_false (show¬(a.coefs.length:Int)<(a.coefs.length:Int) by omega)];have e:a.coefs.all (fun c=>decide (-9≤c∧c≤9))=true:=vAH.2 fun c hc=>by obtain⟨i,hi⟩:=vAF hc;exact hall i c hi
  refine Ev.cond (fun h=>(by cases h)) fun _=>?_;unfold bO;rw [e];refine Ev.jn (fun z:Bool=>z=(decide (a.coefs.length=4)&&(decide (-99≤a.const∧a.const≤99)&&true))) (fun j hj=>?_) fun z hz=>Ev.some hz;refine aK (fun h=>aB (sM n a.const 99 (by omega)) (hj _ ?_)) fun h=>hj _ ?_
  ·rw [decide_eq_true (show a.coefs.length=4 by omega)];simp
  rw [decide_eq_false (show¬a.coefs.length=4 by omega)];rfl
 unfold bO;have e:a.coefs.all (fun c=>decide (-9≤c∧c≤9))=false:=vAJ.2 ⟨x,dD hx,by rw [hp];simp⟩;rw [e];simp
def fN(a:Affine)(p:List Int):Int:=a.const+dot a.coefs p
def ptB(M:Int)(p:List Int):Prop:= ∀x∈p,nU M x
theorem uM{a:Affine}(ha:bO a=true){p:List Int}(hp:p.length≤4){M:Int}(hM:0≤M∧M≤1000000000)(hB:ptB M p)(i:Nat)(hi:i≤p.length):nU 1000000000000 (a.const+dot a.coefs (p.take i)):=by
 obtain⟨h1,h2,h3⟩:=fT ha;have h4:=aIF (M:=M) hM.1 (cs:=a.coefs) (xs:=p.take i) h3 fun x hx=>hB x (vAw hx);have h5:(p.take i).length≤4:=by simp;omega
 have h6:9*M*((p.take i).length:Int)≤9*M*4:=Int.mul_le_mul_of_nonneg_left (by omega) (by omega);simp only [nU] at*;omega
theorem aGc{n:Nat}(hn:5500000≤n){a:Affine}(ha:bO a=true){p:List Int}(hp:p.length≤4){M:Int}(hM:0≤M∧M≤1000000000)(hB:ptB M p):cN n a p=some (fN a p):=by
 obtain⟨h1,h2,h3⟩:=fT ha;refine Ev.eq ?_;unfold cN;refine Ev.loop (fun x:Int×Int=> ∃i:Nat,x.2=i∧i≤p.length∧x.1=a.const+dot a.coefs (p.take i)) (fun x=>p.length-x.2.toNat) ?_ n _ ⟨0,rfl,by omega,by simp [aBh]⟩ (by simp;omega);rintro again ⟨x,k⟩ ⟨i,hk,hi,hx⟩ hr;dsimp only at hk hx⊢;subst hk;refine aK (fun hlt=>?_) fun hge=>Ev.some ?_
 ·have hlt:i<p.length:=by omega
  have hp2:=dH hlt;have hc2:=dH (show i<a.coefs.length by omega);have hd:=aCz hc2 hp2;have e1:=uM ha hp hM hB i hi;have e2:=uM ha hp hM hB (i+1) (by omega);rw [hd] at e2;have e3:=aFj (by omega) hM.1 (h3 _ (dD hc2)) (hB _ (dD hp2));refine aB (aS hp2) (aB (aS hc2) ?_);simp only [nU] at e1 e2 e3;rw [aM (n:=a.coefs[i]*p[i]) (by omega),aM (by omega),aM (by omega)];refine hr _ ⟨i+1,by dsimp only;omega,by omega,?_⟩ (by dsimp only;omega);dsimp only;rw [hd,hx];omega
 have:i=p.length:=by omega
 rw [hx,this,wQ];rfl
theorem aFW{n:Nat}(hn:5500000≤n){a:Affine}(ha:bO a=true){p:List Int}(hp:p.length≤4){M:Int}(hM:0≤M∧M≤1000000000)(hB:ptB M p):iM n a p=some (fN a p):=by
 obtain⟨h1,h2,h3⟩:=fT ha;refine Ev.eq ?_;unfold iM;refine Ev.loop (fun x:Int×Int=> ∃i:Nat,x.2=i∧i≤p.length∧x.1=a.const+dot a.coefs (p.take i)) (fun x=>p.length-x.2.toNat) ?_ n _ ⟨0,rfl,by omega,by simp [aBh]⟩ (by simp;omega);rintro again ⟨x,k⟩ ⟨i,hk,hi,hx⟩ hr;dsimp only at hk hx⊢;subst hk;refine Ev.jn (fun z=>z=decide (i<p.length)) (fun j hj=>aK (fun h=>hj _ ?_) fun h=>hj _ ?_) fun z hz=>?_
 ·rw [decide_eq_true (show i<p.length by omega),decide_eq_true (show(i:Int)<(a.coefs.length:Int) by omega)]
 ·rw [decide_eq_false (show¬i<p.length by omega)]
 subst hz;refine aK (fun hlt=>?_) fun hge=>Ev.some ?_
 ·have hp2:=dH hlt;have hc2:=dH (show i<a.coefs.length by omega);have hd:=aCz hc2 hp2;have e1:=uM ha hp hM hB i hi;have e2:=uM ha hp hM hB (i+1) (by omega);rw [hd] at e2;have e3:=aFj (by omega) hM.1 (h3 _ (dD hc2)) (hB _ (dD hp2));refine aB (aS hc2) (aB (aS hp2) ?_);simp only [nU] at e1 e2 e3;rw [aM (n:=a.coefs[i]*p[i]) (by omega),aM (by omega),aM (by omega)];refine hr _ ⟨i+1,by dsimp only;omega,by omega,?_⟩ (by dsimp only;omega);dsimp only;rw [hd,hx];omega
 have:i=p.length:=by omega
 rw [hx,this,wQ];rfl
theorem bV{R:Type}{Q:R→Prop}{A B:Option R}(h:Ev A Q):Ev (bif true then A else B) Q:=h
theorem bH{R:Type}{Q:R→Prop}{A B:Option R}(h:Ev B Q):Ev (bif false then A else B) Q:=h
def cQ:List Int→Nat
 | []=>0
 |c::cs=>if cQ cs=0 then(if c=0 then 0 else 1) else cQ cs+1
theorem C9: ∀(l:List Int) (c:Int),cQ (l++[c])=if c=0 then cQ l else l.length+1
 | [],c=>by simp [cQ]
 |d::l,c=>by
  have ih:=C9 l c;simp only [List.cons_append,cQ,ih];by_cases hc:c=0
  ·simp [hc]
  simp [hc]
theorem C8{l:List Int}{i:Nat}{c:Int}(h:l[i]? =some c):cQ (l.take (i+1))=if c=0 then cQ (l.take i) else i+1:=by have hi:=(cC.1 h).1;rw [R5,h];show cQ (l.take i++[c])=_;rw [C9,mH,vBI (Nat.le_of_lt hi)]
theorem lX: ∀{l:List Int} {i:Nat} {c:Int},l[i]? =some c→cQ l≤i→c=0
 | [],i,c,h,_=>by simp at h
 |d::l,0,c,h,hd=>by
  simp at h;subst h;simp only [cQ] at hd;by_cases h1:cQ l=0
  ·by_cases h2:d=0
   ·exact h2
   simp [h1,h2] at hd
  simp [h1] at hd
 |d::l,i+1,c,h,hd=>by
  have h:l[i]? =some c:=by simpa using h
  refine lX h ?_;simp only [cQ] at hd;by_cases h1:cQ l=0
  ·omega
  rw [if_neg h1] at hd;omega
def SmA(a:Affine):Prop:=a.coefs.length≤1100000
def B3(l:List Affine):Prop:=l.length≤1100000∧ ∀a∈l,SmA a
theorem qM{n:Nat}(hn:5500000≤n){a:Affine}(ha:SmA a):iD n a=some (cQ a.coefs:Int):=by
 have ha:a.coefs.length≤1100000:=ha;refine Ev.eq ?_;unfold iD;refine Ev.loop (fun x:Int×Int=> ∃i:Nat,x.2=i∧i≤a.coefs.length∧x.1=(cQ (a.coefs.take i):Int)) (fun x=>a.coefs.length-x.2.toNat) ?_ n _ ⟨0,rfl,by omega,by simp [cQ]⟩ (by simp;omega);rintro again ⟨x,k⟩ ⟨i,hk,hi,hx⟩ hr;dsimp only at hk hx⊢;subst hk;refine aK (fun hlt=>?_) fun hge=>Ev.some ?_
 ·have hlt:i<a.coefs.length:=by omega
  have hc:=dH hlt;have hd:=C8 hc;refine Ev.jn (fun z:Int=>z=(cQ (a.coefs.take (i+1)):Int)) (fun j hj=>aB (aS hc) (bQ (fun h0=>hj _ ?_) fun h0=>hj _ ?_)) fun z hz=>?_
  ·rw [hd,if_neg h0,aM (by omega)];omega
  ·rw [hd,if_pos h0,hx]
  rw [aM (by omega)];exact hr _ ⟨i+1,by dsimp only;omega,by omega,hz⟩ (by dsimp only;omega)
 have:i=a.coefs.length:=by omega
 rw [hx,this,wQ]
theorem wA{n:Nat}(hn:5500000≤n){a:Affine}(ha:SmA a):eA n a=some (cQ a.coefs:Int):=by
 have ha:a.coefs.length≤1100000:=ha;refine Ev.eq ?_;unfold eA;refine Ev.loop (fun x:Int=> ∃i:Nat,x=i∧i≤a.coefs.length∧cQ a.coefs=cQ (a.coefs.take i)) (fun x=>x.toNat) ?_ n _ ⟨a.coefs.length,rfl,by omega,by rw [wQ]⟩ (by simp;omega);rintro again x ⟨i,rfl,hi,hx⟩ hr;cases i with
 |zero=>
  refine Ev.jn (fun z=>z=false) (fun j hj=>aK (fun h=>absurd h (by decide)) fun h=>hj _ rfl) fun z hz=>?_;subst hz;exact Ev.some (by rw [hx];rfl)
 |succ i=>
  have hlt:i<a.coefs.length:=by omega
  have hc:=dH hlt;have hd:=C8 hc;have e:wr (((i+1:Nat):Int)-1)=(i:Int):=by rw [aM (by omega)];omega
  rw [e];refine Ev.jn (fun z=>z=decide (a.coefs[i]=0)) (fun j hj=>aK (fun h=>aB (aS hc) (hj _ rfl)) fun h=>absurd (show(0:Int)<((i+1:Nat):Int) by omega) h) fun z hz=>?_;subst hz;refine aK (fun h0=>?_) fun h0=>Ev.some ?_
  ·exact hr _ ⟨i,rfl,by omega,by rw [hx,hd,if_pos h0]⟩ (by omega)
  rw [hx,hd,if_neg h0]
def bR(a:Affine)(d:Int):Bool:=bO a&&decide ((cQ a.coefs:Int)≤d)
def cD(l:List Affine)(d:Int):Bool:=l.all (fun a=>bR a d)&&decide (1≤l.length∧l.length≤2)
theorem ltd(a b:Int):decide (a<b)= !decide (b≤a):=by
 by_cases h:a<b
 ·rw [decide_eq_true h,decide_eq_false (by omega)];rfl
 rw [decide_eq_false h,decide_eq_true (by omega)];rfl
theorem C0{n:Nat}(hn:5500000≤n){l:List Affine}(hl:B3 l)(d:Int):sQ n l d=some (cD l d):=by
 obtain⟨h0,h1⟩:=hl;refine Ev.eq ?_;unfold sQ;refine mY (l:=l) (p:=fun _ a=>bR a d) (by omega) (by omega) (fun again i x hx hgo hno=>?_) (fun again hall=>?_) (fun⟨i,x,hx,hp⟩=>?_)
 ·have hi:=(cC.1 hx).1;have hm:=h1 x (dD hx);rw [decide_eq_true (show(i:Int)<(l.length:Int) by omega)];refine bV (Ev.jn (fun z=>z= !bR x d) (fun j hj=>aB (aS hx) (aB (kU hn x hm) ?_)) fun z hz=>?_)
  ·cases ha:bO x with
   |false=>exact hj _ (by unfold bR;rw [ha];rfl)
   |true=>exact aB (qM hn hm) (hj _ (by unfold bR;rw [ha,ltd];simp))
  subst hz;cases hb:bR x d with
  |true=>show Ev (again _) _;rw [aM (by omega)];exact hgo hb
  |false=>exact Ev.some (hno hb)
 ·rw [decide_eq_false (show¬(l.length:Int)<(l.length:Int) by omega)];have e:l.all (fun a=>bR a d)=true:=vAH.2 fun c hc=>by obtain⟨i,hi⟩:=vAF hc;exact hall i c hi
  unfold cD;rw [e];refine bH (Ev.jn (fun z=>z=decide (1≤l.length∧l.length≤2)) (fun j hj=>aK (fun h=>hj _ ?_) fun h=>hj _ ?_) fun z hz=>Ev.some (by rw [hz];rfl))
  ·by_cases h2:l.length≤2
   ·rw [decide_eq_true (show(l.length:Int)≤2 by omega),decide_eq_true (by omega)]
   rw [decide_eq_false (show¬(l.length:Int)≤2 by omega),decide_eq_false (by omega)]
  rw [decide_eq_false (by omega)]
 unfold cD;rw [vAJ.2 ⟨x,dD hx,by rw [hp];simp⟩];rfl
theorem M5{n:Nat}(hn:5500000≤n){a:Affine}(ha:SmA a)(d:Int):iH n a d=some (!bR a d):=by
 unfold iH;rw [pN hn a ha];simp only [jn,Option.bind];cases hb:bO a with
 |false=>simp [bR,hb]
 |true=>
  rw [wA hn ha];simp only [bR,hb,Bool.not_true,cond_false,Bool.true_and];rw [ltd]
theorem qZ(n k:Nat):b8 n (k:Int) 1 2=some (decide (1≤k∧k≤2)):=by
 rw [dV];congr 1;by_cases h:1≤k∧k≤2
 ·rw [decide_eq_true h,decide_eq_true (by omega)]
 rw [decide_eq_false h,decide_eq_false (by omega)]
theorem vE{n:Nat}(hn:5500000≤n){l:List Affine}(hl:B3 l)(d:Int):nK n l d=some (cD l d):=by
 obtain⟨h0,h1⟩:=hl;unfold nK;rw [qZ];have hc:=mC (n:=n) (f:=fun q0=>iH n q0 d) (p:=fun a=> !bR a d) (l:=l) (fun x hx=>M5 hn (h1 x hx) d) (by omega) (by omega);simp only [jn,Option.bind];rw [hc];unfold cD;have e:(l.any fun a=> !bR a d)= !(l.all fun a=>bR a d):=by
  rw [vAZ];simp
 rw [e];cases decide (1≤l.length∧l.length≤2)<;>simp
def zZ{α:Type}(p:Nat→α→Bool)(l:List α):Bool:=l.zipIdx.all fun q=>p q.2 q.1
theorem oB{α:Type}{p:Nat→α→Bool}{l:List α}(h: ∀(i:Nat) x,l[i]? =some x→p i x=true):zZ p l=true:=
 vAH.2 fun q hq=>h q.2 q.1 (vBA.1 hq)
theorem mP{α:Type}{p:Nat→α→Bool}{l:List α}{i:Nat}{x:α}(h:l[i]? =some x)(hp:p i x=false):zZ p l=false:=
 vAJ.2 ⟨(x,i),vBA.2 h,by rw [hp];simp⟩
theorem v8{α:Type}{p:Nat→α→Bool}{l:List α}(h:zZ p l=true){i:Nat}{x:α}(hx:l[i]? =some x):p i x=true:=
 vAH.1 h (x,i) (vBA.2 hx)
def jT(nest:List Loop):Bool:=zZ (fun i l=>cD l.lo (i:Int)&&cD l.hi (i:Int)) nest&&decide (nest.length≤4)
def SmN(nest:List Loop):Prop:=nest.length≤1100000∧ ∀l∈nest,B3 l.lo∧B3 l.hi
theorem M7{n:Nat}(hn:5500000≤n){nest:List Loop}(h:SmN nest):oG n nest=some (jT nest):=by
 obtain⟨h0,h1⟩:=h;refine Ev.eq ?_;unfold oG;refine mY (l:=nest) (p:=fun i l=>cD l.lo (i:Int)&&cD l.hi (i:Int)) (by omega) (by omega) (fun again i x hx hgo hno=>?_) (fun again hall=>?_) (fun⟨i,x,hx,hp⟩=>?_)
 ·have hi:=(cC.1 hx).1;obtain⟨m1,m2⟩:=h1 x (dD hx);rw [decide_eq_true (show(i:Int)<(nest.length:Int) by omega)];refine aB (aS hx) (Ev.jn (fun z=>z= !(cD x.lo (i:Int)&&cD x.hi (i:Int))) (fun j hj=>aB (vE hn m1 _) ?_) fun z hz=>?_)
  ·cases ha:cD x.lo (i:Int) with
   |false=>exact hj _ (by rw [ha];rfl)
   |true=>exact aB (vE hn m2 _) (hj _ (by rw [ha];rfl))
  subst hz;cases hb:(cD x.lo (i:Int)&&cD x.hi (i:Int)) with
  |true=>show Ev (again _) _;rw [aM (by omega)];exact hgo hb
  |false=>exact Ev.some (hno hb)
 ·rw [decide_eq_false (show¬(nest.length:Int)<(nest.length:Int) by omega)];refine Ev.some ?_;unfold jT;rw [oB hall,vAS];exact decide_eq_decide.2 (by omega)
 unfold jT;rw [mP hx hp];rfl
theorem J6{n:Nat}(hn:5500000≤n){nest:List Loop}(h:SmN nest):n6 n nest=some (jT nest):=by
 obtain⟨h0,h1⟩:=h;unfold n6;by_cases h4:nest.length≤4
 ·rw [decide_eq_true (show(nest.length:Int)≤4 by omega)];refine Ev.eq ?_;refine mY (l:=nest) (p:=fun i l=>cD l.lo (i:Int)&&cD l.hi (i:Int)) (by omega) (by omega) (fun again i x hx hgo hno=>?_) (fun again hall=>?_) (fun⟨i,x,hx,hp⟩=>?_)
  ·have hi:=(cC.1 hx).1;obtain⟨m1,m2⟩:=h1 x (dD hx);rw [decide_eq_true (show(i:Int)<(nest.length:Int) by omega)];refine Ev.jn (fun z=>z=true) (fun j hj=>bV (hj _ rfl)) fun z hz=>?_;subst hz;refine bV (Ev.jn (fun z=>z= !(cD x.lo (i:Int)&&cD x.hi (i:Int))) (fun j hj=>aB (aS hx) (aB (C0 hn m1 _) ?_)) fun z hz=>?_)
   ·cases ha:cD x.lo (i:Int) with
    |false=>exact hj _ (by rw [ha];rfl)
    |true=>exact aB (C0 hn m2 _) (hj _ (by rw [ha];rfl))
   subst hz;cases hb:(cD x.lo (i:Int)&&cD x.hi (i:Int)) with
   |true=>show Ev (again _) _;rw [aM (by omega)];exact hgo hb
   |false=>exact Ev.some (hno hb)
  ·rw [decide_eq_false (show¬(nest.length:Int)<(nest.length:Int) by omega)];refine Ev.jn (fun z=>z=false) (fun j hj=>bH (hj _ rfl)) fun z hz=>?_;subst hz;refine Ev.some ?_;unfold jT;rw [oB hall,decide_eq_true h4];rfl
  unfold jT;rw [mP hx hp];rfl
 obtain⟨k,rfl⟩: ∃k,n=k+1:=⟨n-1,by omega⟩
 rw [decide_eq_false (show¬(nest.length:Int)≤4 by omega)];unfold jT;rw [decide_eq_false h4,vAW];simp only [aL,jn];cases decide ((0:Int)<(nest.length:Int))<;>rfl
def mx:List Int→Int
 | []=>0
 |x::xs=>xs.foldl max x
def mn:List Int→Int
 | []=>0
 |x::xs=>xs.foldl min x
theorem aJ0{l:List Int}(h:l≠[])(x:Int):mx (l++[x])=max (mx l) x:=by
 cases l with
 |nil=>exact absurd rfl h
 |cons a l=>simp [mx,List.foldl_append]
theorem aJ1{l:List Int}(h:l≠[])(x:Int):mn (l++[x])=min (mn l) x:=by
 cases l with
 |nil=>exact absurd rfl h
 |cons a l=>simp [mn,List.foldl_append]
theorem aKG: ∀(l:List Int) (a:Int),a≤l.foldl max a
 | [],a=>X3 _
 |x::l,a=>Int.le_trans (Int.le_max_left a x) (aKG l (max a x))
theorem aKH: ∀(l:List Int) (a:Int),l.foldl min a≤a
 | [],a=>X3 _
 |x::l,a=>Int.le_trans (aKH l (min a x)) (Int.min_le_left a x)
def evs(l:List Affine)(p:List Int):List Int:=l.map fun a=>fN a p
def kX(l:Loop)(p:List Int):Int:=mx (evs l.lo p)
def qF(l:Loop)(p:List Int):Int:=mn (evs l.hi p)
def o5(k:Nat)(p:List Int):Prop:=p.length=k∧k≤4∧ptB (100*40^k) p
theorem K2{k:Nat}(h:k≤4):(0:Int)≤100*40^k∧(100:Int)*40^k≤1000000000:=by
 match k,h with
 |0,_=>decide
 |1,_=>decide
 |2,_=>decide
 |3,_=>decide
 |4,_=>decide
theorem sJ{l:List Affine}{d:Int}(h:cD l d=true):1≤l.length∧l.length≤2∧ ∀a∈l,bO a=true:=by
 simp only [cD,Bool.and_eq_true,decide_eq_true_eq,List.all_eq_true] at h;refine⟨h.2.1,h.2.2,fun a ha=>?_⟩
 have:=h.1 a ha;simp only [bR,Bool.and_eq_true] at this;exact this.1
theorem aH6{a:Affine}(ha:bO a=true){k:Nat}{p:List Int}(hp:o5 k p)(hk:k≤3): -(40*(100*40^k))≤fN a p∧fN a p≤40*(100*40^k):=by
 obtain⟨h1,h2,h3⟩:=fT ha;obtain⟨p1,p2,p3⟩:=hp;obtain⟨q1,q2⟩:=K2 (k:=k) (by omega);have hq:(100:Int)≤100*40^k:=by
  match k,hk with
  |0,_=>decide
  |1,_=>decide
  |2,_=>decide
  |3,_=>decide
 generalize (100*40^k:Int)=M at*;have h4:=aIF (M:=M) q1 (cs:=a.coefs) (xs:=p) h3 fun x hx=>p3 x hx;have h6:9*M*(p.length:Int)≤9*M*3:=Int.mul_le_mul_of_nonneg_left (by omega) (by omega);simp only [nU] at*;unfold fN;omega
theorem aHp{n:Nat}(hn:5500000≤n){a:Affine}(ha:bO a=true){k:Nat}{p:List Int}(hp:o5 k p):iM n a p=some (fN a p):=
 aFW hn ha (by have:=hp.1;have:=hp.2.1;omega) (K2 hp.2.1) hp.2.2
theorem aHV{n:Nat}(hn:5500000≤n){a:Affine}(ha:bO a=true){k:Nat}{p:List Int}(hp:o5 k p):cN n a p=some (fN a p):=
 aGc hn ha (by have:=hp.1;have:=hp.2.1;omega) (K2 hp.2.1) hp.2.2
theorem lL{l:List Affine}{p:List Int}{i:Nat}{a:Affine}(h:l[i]? =some a):(evs l p)[i]? =some (fN a p):=by unfold evs;rw [List.getElem?_map,h];rfl
theorem G9(l:List Affine)(p:List Int):(evs l p).length=l.length:=I2 ..
theorem aE8{α:Type}{l:List α}{i:Nat}(h:1≤i)(hl:1≤l.length):l.take i≠[]:=by
 intro e
 have:(l.take i).length=0:=by rw [e];rfl
 rw [mH] at this;omega
theorem aFi{l:List Int}{i:Nat}{x:Int}(h:l[i]? =some x)(hi:1≤i):mx (l.take (i+1))=max (mx (l.take i)) x:=by have:=(cC.1 h).1;rw [R5,h];exact aJ0 (aE8 hi (by omega)) x
theorem aFl{l:List Int}{i:Nat}{x:Int}(h:l[i]? =some x)(hi:1≤i):mn (l.take (i+1))=min (mn (l.take i)) x:=by have:=(cC.1 h).1;rw [R5,h];exact aJ1 (aE8 hi (by omega)) x
theorem aDW{l:List Int}{x:Int}(h:l[0]? =some x):mx (l.take 1)=x:=by
 cases l with
 |nil=>simp at h
 |cons a l=>simp at h;subst h;rfl
theorem aDX{l:List Int}{x:Int}(h:l[0]? =some x):mn (l.take 1)=x:=by
 cases l with
 |nil=>simp at h
 |cons a l=>simp at h;subst h;rfl
theorem J4{n:Nat}(hn:5500000≤n){l:Loop}{d d':Int}(h1:cD l.lo d=true)(h2:cD l.hi d'=true){k:Nat}{p:List Int}(hp:o5 k p):pB n l p=some (kX l p,qF l p):=by
 obtain⟨a1,a2,a3⟩:=sJ h1;obtain⟨b1,b2,b3⟩:=sJ h2;have g1:=dH (show 0<l.lo.length by omega);have g2:=dH (show 0<l.hi.length by omega);refine Ev.eq ?_;unfold pB;refine aB (aS (i:=0) g1) (aB (aHp hn (a3 _ (dD g1)) hp) (aB (aS (i:=0) g2) (aB (aHp hn (b3 _ (dD g2)) hp) ?_)));refine Ev.loop (fun x:Int×Int=> ∃i:Nat,x.2=i∧1≤i∧i≤l.lo.length∧x.1=mx ((evs l.lo p).take i)) (fun x=>l.lo.length-x.2.toNat) ?_ n _ ⟨1,rfl,by omega,by omega,(aDW (lL g1)).symm⟩ (by dsimp only;omega);rintro again ⟨x,z⟩ ⟨i,hz,hi1,hi,hx⟩ hr;dsimp only at hz hx⊢;subst hz;refine aK (fun hlt=>?_) fun hge=>?_
 ·have g:=dH (show i<l.lo.length by omega);have e:=aFi (lL (p:=p) g) hi1;refine Ev.jn (fun z=>z=mx ((evs l.lo p).take (i+1))) (fun j hj=>aB (aS g) (aB (aHp hn (a3 _ (dD g)) hp) (aK (fun h=>hj _ ?_) fun h=>hj _ ?_))) fun z hz=>?_
  ·rw [e,←hx];omega
  ·rw [e,←hx];omega
  rw [aM (by omega)];exact hr _ ⟨i+1,by dsimp only;omega,by omega,by omega,hz⟩ (by dsimp only;omega)
 have hie:i=l.lo.length:=by omega
 have hx':x=kX l p:=by rw [hx,hie,←G9 l.lo p,wQ];rfl
 refine Ev.loop (fun x:Int×Int=> ∃i:Nat,x.2=i∧1≤i∧i≤l.hi.length∧x.1=mn ((evs l.hi p).take i)) (fun x=>l.hi.length-x.2.toNat) ?_ n _ ⟨1,rfl,by omega,by omega,(aDX (lL g2)).symm⟩ (by dsimp only;omega);rintro again2 ⟨y,z⟩ ⟨i,hz,hi1,hi,hy⟩ hr2;dsimp only at hz hy⊢;subst hz;refine aK (fun hlt=>?_) fun hge=>Ev.some ?_
 ·have g:=dH (show i<l.hi.length by omega);have e:=aFl (lL (p:=p) g) hi1;refine Ev.jn (fun z=>z=mn ((evs l.hi p).take (i+1))) (fun j hj=>aB (aS g) (aB (aHp hn (b3 _ (dD g)) hp) (aK (fun h=>hj _ ?_) fun h=>hj _ ?_))) fun z hz=>?_
  ·rw [e,←hy];omega
  ·rw [e,←hy];omega
  rw [aM (by omega)];exact hr2 _ ⟨i+1,by dsimp only;omega,by omega,by omega,hz⟩ (by dsimp only;omega)
 have hie:i=l.hi.length:=by omega
 rw [hx',hy,hie,←G9 l.hi p,wQ];rfl
theorem aGa{n:Nat}(hn:5500000≤n){l:Loop}{d d':Int}(h1:cD l.lo d=true)(h2:cD l.hi d'=true){k:Nat}{p:List Int}(hp:o5 k p):oH n l p=some (kX l p,qF l p):=by
 obtain⟨a1,a2,a3⟩:=sJ h1;obtain⟨b1,b2,b3⟩:=sJ h2;have g1:=dH (show 0<l.lo.length by omega);have g2:=dH (show 0<l.hi.length by omega);refine Ev.eq ?_;unfold oH;refine aB (aS (i:=0) g1) (aB (aHV hn (a3 _ (dD g1)) hp) (aB (aS (i:=0) g2) (aB (aHV hn (b3 _ (dD g2)) hp) ?_)));refine Ev.loop (fun x:Int×Int=> ∃i:Nat,x.2=i∧i≤l.lo.length∧x.1=mx ((evs l.lo p).take (max i 1))) (fun x=>l.lo.length-x.2.toNat) ?_ n _ ⟨0,rfl,by omega,(aDW (lL g1)).symm⟩ (by dsimp only;omega);rintro again ⟨x,z⟩ ⟨i,hz,hi,hx⟩ hr;dsimp only at hz hx⊢;subst hz;refine aK (fun hlt=>?_) fun hge=>?_
 ·have g:=dH (show i<l.lo.length by omega);refine aB (aS g) (aB (aHV hn (a3 _ (dD g)) hp) ?_);rw [aM (by omega)];refine hr _ ⟨i+1,by dsimp only;omega,by omega,?_⟩ (by dsimp only;omega);dsimp only;rw [show max (i+1) 1=i+1 by omega];cases i with
  |zero=>rw [hx,show max 0 1=1 by rfl,l4,aDW (lL g)];omega
  |succ i=>rw [aFi (lL (p:=p) g) (by omega),hx,show max (i+1) 1=i+1 by omega]
 have hie:i=l.lo.length:=by omega
 have hx':x=kX l p:=by rw [hx,hie,Nat.max_eq_left (by omega),←G9 l.lo p,wQ];rfl
 refine Ev.loop (fun x:Int×Int=> ∃i:Nat,x.2=i∧i≤l.hi.length∧x.1=mn ((evs l.hi p).take (max i 1))) (fun x=>l.hi.length-x.2.toNat) ?_ n _ ⟨0,rfl,by omega,(aDX (lL g2)).symm⟩ (by dsimp only;omega);rintro again2 ⟨y,z⟩ ⟨i,hz,hi,hy⟩ hr2;dsimp only at hz hy⊢;subst hz;refine aK (fun hlt=>?_) fun hge=>Ev.some ?_
 ·have g:=dH (show i<l.hi.length by omega);refine aB (aS g) (aB (aHV hn (b3 _ (dD g)) hp) ?_);rw [aM (by omega)];refine hr2 _ ⟨i+1,by dsimp only;omega,by omega,?_⟩ (by dsimp only;omega);dsimp only;rw [show max (i+1) 1=i+1 by omega];cases i with
  |zero=>rw [hy,show max 0 1=1 by rfl,l4,aDX (lL g)];omega
  |succ i=>rw [aFl (lL (p:=p) g) (by omega),hy,show max (i+1) 1=i+1 by omega]
 have hie:i=l.hi.length:=by omega
 rw [hx',hy,hie,Nat.max_eq_left (by omega),←G9 l.hi p,wQ];rfl
theorem G2{l:Loop}{d d':Int}(h1:cD l.lo d=true)(h2:cD l.hi d'=true){k:Nat}{p:List Int}(hp:o5 k p)(hk:k≤3){v:Int}(hv:kX l p≤v∧v<qF l p):o5 (k+1) (p++[v]):=by
 obtain⟨a1,a2,a3⟩:=sJ h1;obtain⟨b1,b2,b3⟩:=sJ h2;have e1: -(40*(100*40^k))≤kX l p:=by
  cases hl:l.lo with
  |nil=>rw [hl] at a1;simp at a1
  |cons a as=>
   have:=(aH6 (a3 a (by rw [hl];simp)) hp hk).1;unfold kX evs;rw [hl];exact Int.le_trans this (aKG _ _)
 have e2:qF l p≤40*(100*40^k):=by
  cases hl:l.hi with
  |nil=>rw [hl] at b1;simp at b1
  |cons a as=>
   have:=(aH6 (b3 a (by rw [hl];simp)) hp hk).2;unfold qF evs;rw [hl];exact Int.le_trans (aKH _ _) this
 obtain⟨p1,p2,p3⟩:=hp;have e3:(100*40^(k+1):Int)=40*(100*40^k):=by rw [Int.pow_succ];omega
 have q:=(K2 (k:=k) (by omega)).1;refine⟨by simp [p1],by omega,fun x hx=>?_⟩;rw [e3];rcases B6.1 hx with h|h
 ·have:=p3 x h;simp only [nU] at this⊢;omega
 simp at h;subst h;simp only [nU];omega
def pts:List Loop→List Int→List (List Int)
 | [],p=>[p]
 |l::ls,p=>(kV (kX l p) (qF l p)).flatMap fun v=>pts ls (p++[v])
def wk:List Loop→List Int→Int
 | [],_=>1
 |l::ls,p=>1+((kV (kX l p) (qF l p)).map fun v=>wk ls (p++[v])).sum
theorem qI{α:Type}(f:α→Int): ∀(l:List α),(∀x∈l,1≤f x)→(l.length:Int)≤(l.map f).sum
 | [],_=>by simp
 |x::l,h=>by have h1:=qI f l fun y hy=>h y (by simp [hy]);have h2:=h x (by simp);simp only [List.map_cons,List.sum_cons,List.length_cons];omega
theorem aAE: ∀(ls:List Loop) (p:List Int),1≤wk ls p
 | [],p=>X3 _
 |l::ls,p=>by have:=qI (fun v=>wk ls (p++[v])) (kV (kX l p) (qF l p)) fun v _=>aAE ls _;simp only [wk];omega
def Fit(nest:List Loop):Prop:=nest.length≤4∧ ∀(i:Nat) l,nest[i]? =some l→cD l.lo (i:Int)=true∧cD l.hi (i:Int)=true
theorem aA5{nest:List Loop}(h:jT nest=true):Fit nest:=by
 simp only [jT,Bool.and_eq_true,decide_eq_true_eq] at h;refine⟨h.2,fun i l hl=>?_⟩
 have:=v8 h.1 hl;simpa [Bool.and_eq_true] using this
theorem uN{nest:List Loop}{k:Nat}{l:Loop}{ls:List Loop}(h:nest.drop k=l::ls):nest[k]? =some l∧nest.drop (k+1)=ls∧k<nest.length:=by
 have h1:(nest.drop k)[0]? =some l:=by rw [h];rfl
 rw [D9,vBp] at h1;refine⟨h1,?_,(cC.1 h1).1⟩
 have:(nest.drop k).drop 1=ls:=by rw [h];rfl
 rwa [List.drop_drop] at this
theorem xV{nest:List Loop}{k:Nat}(h:nest.drop k=[])(hk:k≤nest.length):k=nest.length:=by
 have:(nest.drop k).length=0:=by rw [h];rfl
 rw [X4] at this;omega
theorem dS(p:List Int)(h:p.length≤1100000):app [] p=some p:=by rw [dO (by simp;omega)];rfl
theorem aBW(l:List Int)(f:Int→Int)(v:Int):((l++[v]).map f).sum=(l.map f).sum+f v:=by simp
theorem aJT{lo v:Int}(h:lo≤v):((kV lo v).length:Int)=v-lo:=by unfold kV;simp;omega
theorem X7{nest:List Loop}(hf:Fit nest): ∀(ls:List Loop) (n k:Nat) (p:List Int) (most:Int),5500000+ls.length≤n→nest.drop k=ls→k≤nest.length→o5 k p→0≤most→most≤1200→
  Ev (s_l2Work n nest p most) (fun r=>(wk ls p≤most→r=wk ls p)∧(most<wk ls p→most<r)∧1≤r∧r≤most+1)
 | [],n,k,p,most,hn,hd,hk,hp,h0,h1=>by
  obtain⟨n,rfl⟩: ∃j,n=j+1:=⟨n-1,by omega⟩
  have hk':=xV hd hk;have hpl:=hp.1;unfold s_l2Work;rw [decide_eq_true (show(p.length:Int)=(nest.length:Int) by omega)];exact Ev.some ⟨fun _=>rfl,fun h=>by simp only [wk] at h;omega,by omega,by omega⟩
 |l::ls,n,k,p,most,hn,hd,hk,hp,h0,h1=>by
  obtain⟨n,rfl⟩: ∃j,n=j+1:=⟨n-1,by omega⟩
  obtain⟨d1,d2,d3⟩:=uN hd;obtain⟨s1,s2⟩:=hf.2 k l d1;have hpl:=hp.1;have hk3:k≤3:=by have:=hf.1;omega
  simp only [List.length_cons] at hn;unfold s_l2Work;rw [decide_eq_false (show¬(p.length:Int)=(nest.length:Int) by omega)];refine bH (aB (x:=l) (by rw [hpl];exact aS d1) (aB (J4 (by omega) s1 s2 hp) ?_));let f:Int→Int:=fun v=>wk ls (p++[v]);have hfp: ∀v,1≤f v:=fun v=>aAE _ _;have hW:wk (l::ls) p=1+((kV (kX l p) (qF l p)).map f).sum:=rfl;refine Ev.loop (fun x:Int×Int=>kX l p≤x.2∧(x.2≤qF l p∨x.2=kX l p)∧(1+((kV (kX l p) x.2).map f).sum≤most→x.1=1+((kV (kX l p) x.2).map f).sum)∧(most<1+((kV (kX l p) x.2).map f).sum→most<x.1)∧1≤x.1∧x.1≤most+1)
   (fun x=>(most+1-x.1).toNat) ?_ n _ ⟨X3 _,.inr rfl,fun _=>by rw [iF (X3 _)];rfl,fun h=>by rw [iF (X3 _)] at h;simp at h;dsimp only;omega,by dsimp only;omega,by dsimp only;omega⟩ (by dsimp only;omega)
  rintro again ⟨x,v⟩ ⟨i1,i2,i3,i4,i5,i6⟩ hr;dsimp only at i1 i2 i3 i4 i5 i6⊢;refine Ev.jn (fun z=>z=decide (v<qF l p∧x≤most)) (fun j hj=>aK (fun h=>hj _ ?_) fun h=>hj _ ?_) fun z hz=>?_
  ·by_cases hx:x≤most
   ·rw [decide_eq_true hx,decide_eq_true ⟨h,hx⟩]
   rw [decide_eq_false hx,decide_eq_false fun h=>hx h.2]
  ·rw [decide_eq_false fun h'=>h h'.1]
  subst hz;refine aK (fun⟨hv,hx⟩=>?_) fun hno=>Ev.some ?_
  ·have hsum:x=1+((kV (kX l p) v).map f).sum:=i3 (by apply Int.not_lt.1;intro h;have:=i4 h;omega);have hp':=G2 s1 s2 hp hk3 ⟨i1,hv⟩;have e1:wr (most-x)=most-x:=by rw [aM (by omega)]
   rw [e1];refine aB (dS p (by omega)) (aB (dO (by simp;omega)) (kD (X7 hf ls n (k+1) (p++[v]) (most-x) (by omega) d2 (by omega) hp' (by omega) (by omega)) fun r ⟨r1,r2,r3,r4⟩=>?_));have hvb:v<qF l p:=hv;have hvr: -1000000000≤v∧v≤1000000000:=by
    have h9:=hp'.2.2 v (by simp);have h8:=K2 hp'.2.1;simp only [nU] at h9;omega
   rw [aM (n:=v+1) (by omega),aM (n:=x+r) (by omega)];have hs:1+((kV (kX l p) (v+1)).map f).sum=x+f v:=by rw [nI i1,aBW,hsum];omega
   refine hr _ ⟨by dsimp only;omega,.inl (by dsimp only;omega),?_,?_,by dsimp only;omega,by dsimp only;omega⟩ (by dsimp only;omega)
   ·dsimp only;rw [hs];intro h
    have:r=f v:=r1 (show f v≤most-x by omega);omega
   dsimp only;rw [hs];intro h
   have:most-x<r:=r2 (show most-x<f v by omega);omega
  have hmono:1+((kV (kX l p) v).map f).sum≤wk (l::ls) p∧(qF l p≤v→1+((kV (kX l p) v).map f).sum=wk (l::ls) p):=by
   rw [hW];by_cases h:v<qF l p
   ·refine⟨?_,fun h'=>by omega⟩;rw [uD i1 h,vAP,List.sum_append,List.map_cons,List.sum_cons]
    have:=qI f (kV (v+1) (qF l p)) fun y _=>hfp y
    have:=hfp v;omega
   have:kV (kX l p) v=kV (kX l p) (qF l p):=by
    rcases i2 with h2|h2
    ·rw [show v=qF l p by omega]
    subst h2;rw [iF (X3 _),iF (by omega)]
   rw [this];exact⟨X3 _,fun _=>rfl⟩
  refine⟨fun h=>?_,fun h=>?_,i5,i6⟩
  ·have hx:=i3 (by omega);rw [hx];apply hmono.2;apply Int.not_lt.1;intro hv;exact hno ⟨hv,by omega⟩
  apply Int.not_le.1;intro hx;have hv:qF l p≤v:=by apply Int.not_lt.1;intro hv;exact hno ⟨hv,hx⟩
  have:=i4 (by rw [hmono.2 hv];exact h);omega
theorem B8{nest:List Loop}(hf:Fit nest): ∀(ls:List Loop) (n k:Nat) (p:List Int) (out:List (List Int)),5500000+ls.length≤n→nest.drop k=ls→k≤nest.length→o5 k p→wk ls p≤1200→out.length≤120→
  Ev (s_l2Points n out nest p) (fun r=>(out.length+(pts ls p).length≤120→r=out++pts ls p)∧(120<out.length+(pts ls p).length→120<r.length))
 | [],n,k,p,out,hn,hd,hk,hp,h0,h1=>by
  obtain⟨n,rfl⟩: ∃j,n=j+1:=⟨n-1,by omega⟩
  have hk':=xV hd hk;have hpl:=hp.1;have hf1:=hf.1;unfold s_l2Points;rw [decide_eq_true (show(p.length:Int)=(nest.length:Int) by omega)];refine bV (aB (dS p (by omega)) (aB (dO (by simp;omega)) (Ev.some ⟨fun _=>rfl,fun h=>by simp [pts] at h ⊢; omega⟩)))
 |l::ls,n,k,p,out,hn,hd,hk,hp,h0,h1=>by
  obtain⟨n,rfl⟩: ∃j,n=j+1:=⟨n-1,by omega⟩
  obtain⟨d1,d2,d3⟩:=uN hd;obtain⟨s1,s2⟩:=hf.2 k l d1;have hpl:=hp.1;have hf1:=hf.1;have hk3:k≤3:=by omega
  simp only [List.length_cons] at hn;unfold s_l2Points;rw [decide_eq_false (show¬(p.length:Int)=(nest.length:Int) by omega)];refine bH (aB (x:=l) (by rw [hpl];exact aS d1) (aB (J4 (by omega) s1 s2 hp) ?_));let f:Int→Int:=fun v=>wk ls (p++[v]);have hfp: ∀v,1≤f v:=fun v=>aAE _ _;have hW:wk (l::ls) p=1+((kV (kX l p) (qF l p)).map f).sum:=rfl;let g:Int→List (List Int):=fun v=>pts ls (p++[v]);have hP:pts (l::ls) p=(kV (kX l p) (qF l p)).flatMap g:=rfl;have hlen:kX l p≤qF l p→qF l p-kX l p≤1199:=fun hle=>by
   have:=qI f (kV (kX l p) (qF l p)) fun y _=>hfp y
   have:=aJT hle;omega
  refine Ev.loop (fun x:List (List Int)×Int=>kX l p≤x.2∧(x.2≤qF l p∨x.2=kX l p)∧(out.length+((kV (kX l p) x.2).flatMap g).length≤120→x.1=out++(kV (kX l p) x.2).flatMap g)∧(120<out.length+((kV (kX l p) x.2).flatMap g).length→120<x.1.length))
   (fun x=>(qF l p-x.2).toNat) ?_ n _ ⟨X3 _,.inr rfl,fun _=>by rw [iF (X3 _)];simp,fun h=>by rw [iF (X3 _)] at h;simp at h;omega⟩ (by dsimp only;omega)
  rintro again ⟨x,v⟩ ⟨i1,i2,i3,i4⟩ hr;dsimp only at i1 i2 i3 i4⊢;refine Ev.jn (fun z=>z=decide (v<qF l p∧x.length≤120)) (fun j hj=>aK (fun h=>hj _ ?_) fun h=>hj _ ?_) fun z hz=>?_
  ·by_cases hx:x.length≤120
   ·rw [decide_eq_true (show(x.length:Int)≤120 by omega),decide_eq_true ⟨h,hx⟩]
   rw [decide_eq_false (show¬(x.length:Int)≤120 by omega),decide_eq_false fun h=>hx h.2]
  ·rw [decide_eq_false fun h'=>h h'.1]
  subst hz;refine aK (fun⟨hv,hx⟩=>?_) fun hno=>Ev.some ?_
  ·have hxe:x=out++(kV (kX l p) v).flatMap g:=i3 (by apply Nat.not_lt.1;intro h;have:=i4 h;omega);have hp':=G2 s1 s2 hp hk3 ⟨i1,hv⟩;have hwc:f v≤1200:=by
    rw [hW,uD i1 hv,vAP,List.sum_append,List.map_cons,List.sum_cons] at h0
    have:=qI f (kV (v+1) (qF l p)) fun y _=>hfp y
    have:=qI f (kV (kX l p) v) fun y _=>hfp y;omega
   refine aB (dS p (by omega)) (aB (dO (by simp;omega)) (kD (B8 hf ls n (k+1) (p++[v]) x (by omega) d2 (by omega) hp' hwc hx) fun r ⟨r1,r2⟩=>?_));have hvr: -1000000000≤v∧v≤1000000000:=by
    have h9:=hp'.2.2 v (by simp);have h8:=K2 hp'.2.1;simp only [nU] at h9;omega
   rw [aM (n:=v+1) (by omega)];have hs:(kV (kX l p) (v+1)).flatMap g=(kV (kX l p) v).flatMap g++g v:=by rw [nI i1,vBf];simp
   refine hr _ ⟨by dsimp only;omega,.inl (by dsimp only;omega),?_,?_⟩ (by dsimp only;omega)
   ·dsimp only;rw [hs];intro h;simp only [List.length_append] at h;have hl:x.length=out.length+((kV (kX l p) v).flatMap g).length:=by rw [hxe,nF]
    rw [r1 (show x.length+(g v).length≤120 by omega),hxe,vAO]
   dsimp only;rw [hs];intro h;simp only [List.length_append] at h;have hl:x.length=out.length+((kV (kX l p) v).flatMap g).length:=by rw [hxe,nF]
   exact r2 (show 120<x.length+(g v).length by omega)
  have hmono:((kV (kX l p) v).flatMap g).length≤(pts (l::ls) p).length∧(qF l p≤v→(kV (kX l p) v).flatMap g=pts (l::ls) p):=by
   rw [hP];by_cases h:v<qF l p
   ·refine⟨?_,fun h'=>by omega⟩;rw [uD i1 h,vBf,nF];omega
   have:kV (kX l p) v=kV (kX l p) (qF l p):=by
    rcases i2 with h2|h2
    ·rw [show v=qF l p by omega]
    subst h2;rw [iF (X3 _),iF (by omega)]
   rw [this];exact⟨kF _,fun _=>rfl⟩
  refine⟨fun h=>?_,fun h=>?_⟩
  ·have hx:=i3 (by omega);rw [hx,hmono.2];apply Int.not_lt.1;intro hv;exact hno ⟨hv,by rw [hx,nF];omega⟩
  apply Nat.not_le.1;intro hx;have hv:qF l p≤v:=by apply Int.not_lt.1;intro hv;exact hno ⟨hv,hx⟩
  have:=i4 (by rw [hmono.2 hv];exact h);omega
theorem aAf{nest:List Loop}(hf:Fit nest): ∀(ls:List Loop) (n k:Nat) (p:List Int) (st:Int) (out:List (List Int)),5500000+ls.length≤n→nest.drop k=ls→k≤nest.length→o5 k p→0≤st→st≤1199→out.length≤120→
  Ev (i_walking_walk n ⟨nest,st,out⟩ p) (fun r=>(st+wk ls p≤1200∧out.length+(pts ls p).length≤120→r=(true,⟨nest,st+wk ls p-1,out++pts ls p⟩))∧(¬(st+wk ls p≤1200∧out.length+(pts ls p).length≤120)→r.1=false))
 | [],n,k,p,st,out,hn,hd,hk,hp,h0,h1,h2=>by
  obtain⟨n,rfl⟩: ∃j,n=j+1:=⟨n-1,by omega⟩
  have hk':=xV hd hk;have hpl:=hp.1;have hf1:=hf.1;unfold i_walking_walk;dsimp only;rw [decide_eq_true (show(p.length:Int)=(nest.length:Int) by omega)];have hc:m_ownClone p=some p:=by unfold m_ownClone;rw [if_pos (by omega)]
  refine bV (aB hc (aB (dO (by simp;omega)) (Ev.some ⟨fun h=>?_,fun h=>?_⟩)))
  ·simp only [wk,pts,List.length_singleton] at h⊢;rw [decide_eq_true (by simp;omega),show st+1-1=st by omega]
  simp only [wk,pts,List.length_singleton] at h⊢;exact decide_eq_false (by simp;omega)
 |l::ls,n,k,p,st,out,hn,hd,hk,hp,h0,h1,h2=>by
  obtain⟨n,rfl⟩: ∃j,n=j+1:=⟨n-1,by omega⟩
  obtain⟨d1,d2,d3⟩:=uN hd;obtain⟨s1,s2⟩:=hf.2 k l d1;have hpl:=hp.1;have hf1:=hf.1;have hk3:k≤3:=by omega
  simp only [List.length_cons] at hn;unfold i_walking_walk;dsimp only;rw [decide_eq_false (show¬(p.length:Int)=(nest.length:Int) by omega)];refine bH (aB (x:=l) (by rw [hpl];exact aS d1) (aB (aGa (by omega) s1 s2 hp) ?_));let f:Int→Int:=fun v=>wk ls (p++[v]);have hfp: ∀v,1≤f v:=fun v=>aAE _ _;have hW:wk (l::ls) p=1+((kV (kX l p) (qF l p)).map f).sum:=rfl;let g:Int→List (List Int):=fun v=>pts ls (p++[v]);have hP:pts (l::ls) p=(kV (kX l p) (qF l p)).flatMap g:=rfl;refine Ev.loop (fun x:List Loop×Int×List (List Int)×Int=>x.1=nest∧kX l p≤x.2.2.2∧(x.2.2.2≤qF l p∨x.2.2.2=kX l p)∧x.2.1=st+((kV (kX l p) x.2.2.2).map f).sum∧x.2.2.1=out++(kV (kX l p) x.2.2.2).flatMap g∧0≤x.2.1∧x.2.1≤1199∧x.2.2.1.length≤120)
   (fun x=>(1200-x.2.1).toNat) ?_ n _ ⟨rfl,X3 _,.inr rfl,by dsimp only;rw [iF (X3 _)];simp,by dsimp only;rw [iF (X3 _)];simp,h0,h1,h2⟩ (by dsimp only;omega)
  rintro again ⟨nst,x,o,v⟩ ⟨i0,i1,i2,i3,i4,i5,i6,i7⟩ hr;dsimp only at i0 i1 i2 i3 i4 i5 i6 i7⊢;subst i0;have hol:o.length=out.length+((kV (kX l p) v).flatMap g).length:=by rw [i4,nF]
  refine aK (fun hv=>?_) fun hv=>Ev.some ?_
  ·have hp':=G2 s1 s2 hp hk3 ⟨i1,hv⟩;have hrest:wk (l::ls) p≥1+((kV (kX l p) v).map f).sum+f v∧(pts (l::ls) p).length≥((kV (kX l p) v).flatMap g).length+(g v).length:=by
    rw [hW,hP,uD i1 hv,vAP,List.sum_append,List.map_cons,List.sum_cons,vBf,nF,List.flatMap_cons,nF]
    have:=qI f (kV (v+1) (qF l p)) fun y _=>hfp y;constructor
    ·omega
    omega
   have hvr: -1000000000≤v∧v≤1000000000:=by
    have h9:=hp'.2.2 v (by simp);have h8:=K2 hp'.2.1;simp only [nU] at h9;omega
   have e1:wr (x+1)=x+1:=by rw [aM (by omega)]
   have e2:wr (x+1+1)=x+1+1:=by rw [aM (by omega)]
   have e3:wr (v+1)=v+1:=by rw [aM (by omega)]
   rw [e1,e2,e3];refine Ev.jn (fun z:List Loop×Int×List (List Int)×Bool=>(z.2.2.2=false→z.1=nst∧x+f v≤1199∧o.length+(g v).length≤120∧z.2.1=x+f v∧z.2.2.1=o++g v)∧(z.2.2.2=true→ ¬(st+wk (l::ls) p≤1200∧out.length+(pts (l::ls) p).length≤120)))
    (fun j hj=>aK (fun h=>hj _ ⟨fun h'=>(by cases h'),fun _=>?_⟩) fun h=>?_) fun z hz=>?_
   ·have:=hfp v;omega
   ·have hc:m_ownClone p=some p:=by unfold m_ownClone;rw [if_pos (by omega)]
    refine aB hc (aB (dO (by simp;omega)) (kD (aAf hf ls n (k+1) (p++[v]) (x+1) o (by omega) d2 (by omega) hp' (by omega) (by omega) i7) fun r ⟨r1,r2⟩=>?_));by_cases hc:x+1+f v≤1200∧o.length+(g v).length≤120
    ·rw [r1 hc];exact hj _ ⟨fun _=>⟨rfl,by omega,hc.2,show x+1+f v-1=x+f v by omega,rfl⟩,fun h=>(by cases h)⟩
    have hr1:=r2 hc;obtain⟨rb,⟨rn,rs,ro⟩⟩:=r;dsimp only at hr1⊢;subst hr1;exact hj _ ⟨fun h=>(by cases h),fun _=>by omega⟩
   obtain⟨za,zb,zc,zd⟩:=z;obtain⟨z2,z3⟩:=hz;dsimp only at z2 z3⊢;cases zd with
   |true=>exact Ev.some ⟨fun h=>absurd h (z3 rfl),fun _=>rfl⟩
   |false=>
    obtain⟨rfl,y1,y2,y3,y4⟩:=z2 rfl;refine hr _ ⟨rfl,by dsimp only;omega,.inl (by dsimp only;omega),?_,?_,by dsimp only;have:=hfp v;omega,by dsimp only;omega,?_⟩ (by dsimp only;have:=hfp v;omega)
    ·dsimp only;rw [nI i1,aBW,y3,i3];omega
    ·dsimp only;rw [y4,i4,nI i1,vBf];simp
    dsimp only;rw [y4,nF];exact y2
  have:kV (kX l p) v=kV (kX l p) (qF l p):=by
   rcases i2 with h2|h2
   ·rw [show v=qF l p by omega]
   subst h2;rw [iF (X3 _),iF (by omega)]
  rw [this] at i3 i4 hol;rw [←hP] at i4 hol;refine⟨fun h=>?_,fun h=>?_⟩
  ·rw [i4,i3,hW,show st+(1+((kV (kX l p) (qF l p)).map f).sum)-1=st+((kV (kX l p) (qF l p)).map f).sum by omega]
  exact absurd ⟨by omega,by omega⟩ h
def NP(nest:List Loop):Option (List (List Int)):=if jT nest=true∧wk nest []≤1200∧(pts nest []).length≤120 then some (pts nest []) else none
def aEn:Option (List (List Int))→List (List Int)×Bool
 |none=>([],false)
 |some l=>(l,true)
theorem pt0:o5 0 []:=⟨rfl,by omega,fun x h=>by cases h⟩
theorem E6{n:Nat}(hn:6600000≤n){nest:List Loop}(h:SmN nest):mR n nest=some (aEn (NP nest)):=by
 refine Ev.eq ?_;unfold mR;refine aB (M7 (by omega) h) ?_;unfold NP;cases hv:jT nest with
 |false=>exact Ev.some (by simp [aEn])
 |true=>
  have hf:=aA5 hv;refine kD (aAf hf nest n 0 [] 0 [] (by have:=hf.1;omega) rfl (by omega) pt0 (by omega) (by omega) (by simp)) fun r ⟨r1,r2⟩=>?_;by_cases hc:(0:Int)+wk nest []≤1200∧([]:List (List Int)).length+(pts nest []).length≤120
  ·rw [r1 hc,if_pos ⟨rfl,by omega,by simpa using hc.2⟩];exact Ev.some (by simp [aEn])
  rw [r2 hc,if_neg fun h=>hc ⟨by omega,by simpa using h.2.2⟩];exact Ev.some rfl
theorem E1{n:Nat}(hn:6600000≤n){nest:List Loop}(h:SmN nest):mL n nest=some (aEn (NP nest)):=by
 refine Ev.eq ?_;unfold mL;refine Ev.jn (fun z=>z= !(jT nest&&decide (wk nest []≤1200))) (fun j hj=>aB (J6 (by omega) h) ?_) fun z hz=>?_
 ·cases hv:jT nest with
  |false=>exact hj _ (by rw [hv];rfl)
  |true=>
   have hf:=aA5 hv;refine kD (X7 hf nest n 0 [] 1200 (by have:=hf.1;omega) rfl (by omega) pt0 (by omega) (by omega)) fun r ⟨r1,r2,r3,r4⟩=>hj _ ?_;rw [hv,vAS];by_cases hw:wk nest []≤1200
   ·rw [decide_eq_true hw,decide_eq_false (by rw [r1 hw];omega)];rfl
   rw [decide_eq_false hw,decide_eq_true (r2 (by omega))];rfl
 subst hz;unfold NP;cases hv:jT nest with
 |false=>exact Ev.some (by simp [aEn])
 |true=>
  have hf:=aA5 hv;by_cases hw:wk nest []≤1200
  ·rw [decide_eq_true hw];refine kD (B8 hf nest n 0 [] [] (by have:=hf.1;omega) rfl (by omega) pt0 hw (by simp)) fun r ⟨r1,r2⟩=>?_;by_cases hl:(pts nest []).length≤120
   ·rw [r1 (by simpa using hl),if_pos ⟨rfl,hw,hl⟩];refine aK (fun h=>absurd h (by simp;omega)) fun _=>Ev.some (by simp [aEn])
   have:=r2 (by simp;omega);rw [if_neg fun h=>hl h.2.2];exact aK (fun _=>Ev.some rfl) fun h=>absurd h (by omega)
  rw [decide_eq_false hw,if_neg fun h=>hw h.2.1];exact Ev.some rfl
def l8(s:List UInt8):Bool:=match s with
 | [b]=>decide (65≤b.toNat∧b.toNat≤68)
 |_=>false
theorem qT{s:List UInt8}(h:s.length≠1):l8 s=false:=by
 match s,h with
 | [],_=>rfl
 | [b],h=>exact absurd rfl h
 |_::_::_,_=>rfl
theorem aLC{s:List UInt8}(h:s.length=1): ∃b,s=[b]:=by
 match s,h with
 | [b],_=>exact⟨b,rfl⟩
theorem aGX(b:UInt8)(k:Nat)(hk:k<256):(b=UInt8.ofNat k)↔b.toNat=k:=by
 constructor
 ·intro h;rw [h];simp;omega
 intro h;rw [←h];simp
theorem T8(b:UInt8):Lib.contains [65,66,67,68] [b]=decide (65≤b.toNat∧b.toNat≤68):=by
 have e1:(b=65)↔b.toNat=65:=aGX b 65 (by omega);have e2:(b=66)↔b.toNat=66:=aGX b 66 (by omega);have e3:(b=67)↔b.toNat=67:=aGX b 67 (by omega);have e4:(b=68)↔b.toNat=68:=aGX b 68 (by omega);by_cases h1:b=65
 ·subst h1;decide
 by_cases h2:b=66
 ·subst h2;decide
 by_cases h3:b=67
 ·subst h3;decide
 by_cases h4:b=68
 ·subst h4;decide
 rw [e1] at h1;rw [e2] at h2;rw [e3] at h3;rw [e4] at h4;rw [decide_eq_false (by omega)];rw [←e1] at h1;rw [←e2] at h2;rw [←e3] at h3;rw [←e4] at h4;simp [Lib.contains,Lib.index,h1,h2,h3,h4]
theorem xP(n:Nat)(s:List UInt8):pM n s=some (l8 s):=by
 unfold pM;by_cases h:s.length=1
 ·obtain⟨b,rfl⟩:=aLC h;simp only [jn,m_contains];rw [if_pos (by simp),T8];rfl
 rw [decide_eq_false (show¬(s.length:Int)=1 by omega),qT h];rfl
theorem L4(b:UInt8):Op.bytesLess [b] [65]=decide (b.toNat<65):=by simp [Op.bytesLess,UInt8.lt_iff_toNat_lt]
theorem L3(b:UInt8):(Op.bytesLess [b] [68]||[b]==[68])=decide (b.toNat≤68):=by
 have e:(b=68)↔b.toNat=68:=aGX b 68 (by omega);by_cases h:b=68
 ·subst h;decide
 have h':b.toNat≠68:=fun e'=>h (e.2 e')
 have:([b]==[(68:UInt8)])=false:=by simp [h]
 rw [this,Bool.or_false];simp only [Op.bytesLess,Bool.and_false,Bool.or_false,UInt8.lt_iff_toNat_lt];apply decide_eq_decide.2;show b.toNat<68↔_;omega
def fO(a:Access)(d:Int):Bool:=a.subs.all (fun x=>bR x d)&&(l8 a.array&&decide (1≤a.subs.length∧a.subs.length≤2))
theorem aGd{n:Nat}(hn:5500000≤n){a:Affine}(ha:SmA a)(d:Int):jX n a d=some (!bR a d):=M5 hn ha d
theorem vF{n:Nat}(hn:5500000≤n){a:Access}(ha:B3 a.subs)(d:Int):nL n a d=some (fO a d):=by
 obtain⟨h0,h1⟩:=ha;unfold nL;rw [xP,qZ];have hc:=mC (n:=n) (f:=fun q0=>jX n q0 d) (p:=fun a=> !bR a d) (l:=a.subs) (fun x hx=>aGd hn (h1 x hx) d) (by omega) (by omega);simp only [jn,Option.bind];rw [hc];unfold fO;have e:(a.subs.any fun a=> !bR a d)= !(a.subs.all fun a=>bR a d):=by
  rw [vAZ];simp
 rw [e];cases l8 a.array<;>cases decide (1≤a.subs.length∧a.subs.length≤2)<;>simp
theorem u4{n:Nat}(hn:5500000≤n){a:Access}(ha:B3 a.subs)(d:Int):nG n a d=some (fO a d):=by
 obtain⟨h0,h1⟩:=ha;refine Ev.eq ?_;unfold nG;refine mY (l:=a.subs) (p:=fun _ a=>bR a d) (by omega) (by omega) (fun again i x hx hgo hno=>?_) (fun again hall=>?_) (fun⟨i,x,hx,hp⟩=>?_)
 ·have hi:=(cC.1 hx).1;have hm:=h1 x (dD hx);rw [decide_eq_true (show(i:Int)<(a.subs.length:Int) by omega)];refine bV (Ev.jn (fun z=>z= !bR x d) (fun j hj=>aB (aS hx) (aB (kU hn x hm) ?_)) fun z hz=>?_)
  ·cases ha:bO x with
   |false=>exact hj _ (by unfold bR;rw [ha];rfl)
   |true=>exact aB (qM hn hm) (hj _ (by unfold bR;rw [ha,ltd];simp))
  subst hz;cases hb:bR x d with
  |true=>show Ev (again _) _;rw [aM (by omega)];exact hgo hb
  |false=>exact Ev.some (hno hb)
 ·rw [decide_eq_false (show¬(a.subs.length:Int)<(a.subs.length:Int) by omega)];have e:a.subs.all (fun a=>bR a d)=true:=vAH.2 fun c hc=>by obtain⟨i,hi⟩:=vAF hc;exact hall i c hi
  unfold fO;rw [e,vAS];refine bH (Ev.jn (fun z=>z=(l8 a.array&&decide (1≤a.subs.length∧a.subs.length≤2))) (fun j hj=>?_) fun z hz=>Ev.some hz);by_cases h:a.array.length=1
  ·rw [decide_eq_true (show(a.array.length:Int)=1 by omega)];obtain⟨b,hb⟩:=aLC h;rw [hb] at hj⊢;rw [L4,L3];show Ev (bif _ then _ else _) _;simp only [l8] at hj⊢;by_cases g1:b.toNat<65
   ·rw [decide_eq_true g1];exact hj _ (by rw [decide_eq_false (show¬(65≤b.toNat∧b.toNat≤68) by omega)];rfl)
   rw [decide_eq_false g1];by_cases g2:b.toNat≤68
   ·rw [decide_eq_true g2];rw [decide_eq_true (show 65≤b.toNat∧b.toNat≤68 by omega)] at hj⊢;refine aK (fun h=>hj _ ?_) fun h=>hj _ ?_
    ·by_cases h2:a.subs.length≤2
     ·rw [decide_eq_true (show(a.subs.length:Int)≤2 by omega),decide_eq_true (by omega)];rfl
     rw [decide_eq_false (show¬(a.subs.length:Int)≤2 by omega),decide_eq_false (by omega)];rfl
    rw [decide_eq_false (by omega)];rfl
   rw [decide_eq_false g2];exact hj _ (by rw [decide_eq_false (show¬(65≤b.toNat∧b.toNat≤68) by omega)];rfl)
  rw [decide_eq_false (show¬(a.array.length:Int)=1 by omega)];exact hj _ (by rw [qT h];rfl)
 unfold fO;rw [vAJ.2 ⟨x,dD hx,by rw [hp];simp⟩];rfl
def iO(a:Affine):Bool:=decide (a.coefs.length=0)&&decide (a.const=0)
def mF(a:Access):Bool:=decide (a.array=[])&&decide (a.subs.length=0)
theorem aJ6(k:Nat):decide ((k:Int)=0)=decide (k=0):=decide_eq_decide.2 (by omega)
theorem T4(n:Nat)(a:Affine):nJ n a=some (iO a):=by unfold nJ iO;rw [aJ6];cases decide (a.coefs.length=0)<;>rfl
theorem aB3(n:Nat)(a:Affine):o9 n a=some (iO a):=by unfold o9 iO;rw [aJ6];cases decide (a.coefs.length=0)<;>rfl
theorem T5(n:Nat)(a:Access):jA n a=some (mF a):=by unfold jA mF;rw [aJ6];cases decide (a.array=[])<;>rfl
theorem aAR(n:Nat)(a:Access):m4 n a=some (mF a):=by unfold m4 mF;rw [aJ6];cases decide (a.array=[])<;>rfl
def fK(e:Expr)(d:Int):Bool:=
 if e.kind=2 then decide (e.num=0)&&(mF e.read&&bR e.index d)
 else if e.kind=3 then decide (e.num=0)&&(iO e.index&&fO e.read d)
 else if e.kind=1 then decide (0≤e.num∧e.num≤99)&&(iO e.index&&mF e.read)
 else decide (e.num=0)&&(iO e.index&&mF e.read)
def gS(k:Int):Int:=if k=1∨k=2∨k=3 then 0 else if k=4∨k=5∨k=6 then 2 else-1
theorem aB4(n:Nat)(k:Int):xA n k=some (gS k):=by
 unfold xA gS;by_cases h1:k=1
 ·subst h1;rfl
 by_cases h2:k=2
 ·subst h2;rfl
 by_cases h3:k=3
 ·subst h3;rfl
 by_cases h4:k=4
 ·subst h4;rfl
 by_cases h5:k=5
 ·subst h5;rfl
 by_cases h6:k=6
 ·subst h6;rfl
 simp [jn,h1,h2,h3,h4,h5,h6]
theorem aDz{n:Nat}(hn:5500000≤n){e:Expr}(h1:SmA e.index)(h2:B3 e.read.subs)(d:Int):G0 n e d=some (fK e d):=by
 unfold G0 fK;rw [aAR,aB3,kU hn _ h1,qM hn h1,u4 hn h2];by_cases k2:e.kind=2
 ·rw [if_pos k2,decide_eq_true k2];simp only [jn,Option.bind,cond_true,bR];cases decide (e.num=0)<;>cases mF e.read<;>cases bO e.index<;>simp
 rw [if_neg k2,decide_eq_false k2];by_cases k3:e.kind=3
 ·rw [if_pos k3,decide_eq_true k3];simp only [jn,Option.bind,cond_true,cond_false];cases decide (e.num=0)<;>cases iO e.index<;>simp
 rw [if_neg k3,decide_eq_false k3];by_cases k1:e.kind=1
 ·rw [if_pos k1,decide_eq_true k1];simp only [jn,Option.bind,cond_true,cond_false];by_cases g1:0≤e.num<;>by_cases g2:e.num≤99<;>cases iO e.index<;>simp [g1,g2]
 rw [if_neg k1,decide_eq_false k1];simp only [jn,Option.bind,cond_false];cases decide (e.num=0)<;>cases iO e.index<;>simp
end Go.Lift
