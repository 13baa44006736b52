/- Plain facts on sums of products, on ranges, on the points of a nest. -/
import Derived.Test.YtjmaejilmokdgaaGreatRLawDraw
set_option maxRecDepth 100000
set_option linter.unusedVariables false
namespace Go.Lift
open Go
def dot:List Int→List Int→Int
 |c::cs,x::xs=>c*x+dot cs xs
 |_,_=>0
def yN(m:Int)(x:Int):Prop:= -m≤x∧x≤m
theorem aHX{a b c x:Int}(ha:0≤a)(hb:0≤b)(h1:yN a c)(h2:yN b x):yN (a*b) (c*x):=by
 obtain⟨p1,p2⟩:=h1;obtain⟨q1,q2⟩:=h2;constructor
 ·have h:=vBo (show 0≤a+c by omega) (show 0≤b+x by omega);have k:=vBo (show 0≤a-c by omega) (show 0≤b-x by omega);have e1:(a+c)*(b+x)=a*b+a*x+c*b+c*x:=by rw [Int.add_mul,Int.mul_add,Int.mul_add];omega
  have e2:(a-c)*(b-x)=a*b-a*x-c*b+c*x:=by rw [Int.sub_mul,Int.mul_sub,Int.mul_sub];omega
  rw [e1] at h;rw [e2] at k;omega
 have h:=vBo (show 0≤a+c by omega) (show 0≤b-x by omega);have k:=vBo (show 0≤a-c by omega) (show 0≤b+x by omega);have e1:(a+c)*(b-x)=a*b-a*x+c*b-c*x:=by rw [Int.add_mul,Int.mul_sub,Int.mul_sub];omega
 have e2:(a-c)*(b+x)=a*b+a*x-c*b-c*x:=by rw [Int.sub_mul,Int.mul_add,Int.mul_add];omega
 rw [e1] at h;rw [e2] at k;omega
theorem aBE(cs:List Int):dot cs []=0:=by cases cs<;>rfl
theorem aC2: ∀{cs xs:List Int} {c x:Int},cs[xs.length]? =some c→dot cs (xs++[x])=dot cs xs+c*x
 | [],xs,c,x,h=>by simp at h
 |d::cs,[],c,x,h=>by simp at h;subst h;simp [dot,aBE]
 |d::cs,y::xs,c,x,h=>by
  have h:cs[xs.length]? =some c:=by simpa using h
  simp only [List.cons_append,dot];rw [aC2 h];omega
theorem aC1{cs xs:List Int}{i:Nat}{c x:Int}(hc:cs[i]? =some c)(hx:xs[i]? =some x):dot cs (xs.take (i+1))=dot cs (xs.take i)+c*x:=by have hi:=(cL.1 hx).1;rw [xC,hx];exact aC2 (by simpa [Nat.min_eq_left (Nat.le_of_lt hi)] using hc)
theorem aIY{M:Int}(hM:0≤M): ∀{cs xs:List Int},(∀c∈cs,yN 9 c)→(∀x∈xs,yN M x)→yN (9*M*xs.length) (dot cs xs)
 | [],xs,_,_=>by
  have:0≤9*M*(xs.length:Int):=vBo (by omega) (by omega);simp only [dot,yN];omega
 |d::cs,[],_,_=>by simp [dot,yN]
 |d::cs,y::xs,hc,hx=>by
  have h1:=aIY hM (cs:=cs) (xs:=xs) (fun c h=>hc c (by simp [h])) fun x h=>hx x (by simp [h]);have h2:=aHX (by omega) hM (hc d (by simp)) (hx y (by simp));have e:9*M*((y::xs).length:Int)=9*M*(xs.length:Int)+9*M:=by simp [Int.mul_add]
  rw [e];simp only [dot,yN] at*;omega
def jZ(lo hi:Int):List Int:=(List.range (hi-lo).toNat).map (fun(i:Nat)=>lo+(i:Int))
theorem aJY{lo hi v:Int}:v∈jZ lo hi↔lo≤v∧v<hi:=by
 simp only [jZ,List.mem_map,List.mem_range];constructor
 ·rintro⟨i,hi,rfl⟩;omega
 intro h;exact⟨(v-lo).toNat,by omega,by omega⟩
theorem gQ{lo hi:Int}(h:hi≤lo):jZ lo hi=[]:=by unfold jZ;rw [show(hi-lo).toNat=0 by omega];rfl
theorem nB{lo hi:Int}(h:lo≤hi):jZ lo (hi+1)=jZ lo hi++[hi]:=by unfold jZ;rw [show(hi+1-lo).toNat=(hi-lo).toNat+1 by omega,vBR,sY];simp;omega
theorem uM{lo v hi:Int}(h1:lo≤v)(h2:v<hi):jZ lo hi=jZ lo v++v::jZ (v+1) hi:=by
 obtain⟨k,hk⟩: ∃k:Nat,hi=v+1+k:=⟨(hi-v-1).toNat,by omega⟩
 subst hk;clear h2;induction k with
 |zero=>
  rw [show v+1+((0:Nat):Int)=v+1 by omega,nB h1,gQ (zV _)]
 |succ k ih=>
  rw [show v+1+((k+1:Nat):Int)=v+1+(k:Int)+1 by omega,nB (by omega),ih,nB (by omega)];simp
theorem L0{α:Type}{f:α→Option Bool}{p:α→Bool}{l:List α}(hf: ∀x∈l,f x=some (p x)){n:Nat}(hl:l.length<n)(hl2:l.length≤1000000):
  ∃r:Int,aL (fun again2 (x1:Int)=>bif decide (x1<(l.length:Int)) then(Option.bind (ix l x1) fun x3=>Option.bind (f x3) fun x4=>bif x4 then(some x1) else(again2 (wr (x1+1)))) else(some (-1))) n 0=some r∧decide (0≤r)=l.any p:=by
 suffices h:Ev (aL (fun again2 (x1:Int)=>bif decide (x1<(l.length:Int)) then(Option.bind (ix l x1) fun x3=>Option.bind (f x3) fun x4=>bif x4 then(some x1) else(again2 (wr (x1+1)))) else(some (-1))) n 0) (fun r=>decide (0≤r)=l.any p) by exact h
 refine Ev.loop (fun x:Int=>0≤x∧x≤l.length∧(l.take x.toNat).any p=false) (fun x:Int=>l.length-x.toNat) ?_ n 0 ⟨by omega,by omega,by simp⟩ (by simp;omega);rintro again x ⟨h0,h1,h2⟩ hr;refine aH (fun hlt=>?_) fun hge=>?_
 ·obtain⟨y,hy,hy2⟩:=iH h0 hlt;have hm:=cF hy2;refine aA hy (aA (hf y hm) (Ev.cond (fun ht=>Ev.some ?_) fun hfl=>?_))
  ·rw [show l.any p=true from vBu.2 ⟨y,hm,ht⟩];simp [h0]
  rw [aK (by omega)];refine hr _ ⟨by omega,by omega,?_⟩ (by omega);rw [show(x+1).toNat=x.toNat+1 by omega,xC,hy2];simp [h2,hfl]
 refine Ev.some ?_;have hx:x.toNat=l.length:=by omega
 rw [hx,pB] at h2;rw [h2];simp
theorem mD{f:Int→Option Bool}{p:Int→Bool}{l:List Int}(hf: ∀x∈l,f x=some (p x)){n:Nat}(hl:l.length<n)(hl2:l.length≤1000000):bW n l f=some (l.any p):=by obtain⟨r,h1,h2⟩:=L0 hf hl hl2;unfold bW fP;rw [h1,←h2];rfl
theorem sI{f:Affine→Option Bool}{p:Affine→Bool}{l:List Affine}(hf: ∀x∈l,f x=some (p x)){n:Nat}(hl:l.length<n)(hl2:l.length≤1000000):cW n l f=some (l.any p):=by obtain⟨r,h1,h2⟩:=L0 hf hl hl2;unfold cW iT;rw [h1,←h2];rfl
theorem X7{f:Stmt→Option Bool}{p:Stmt→Bool}{l:List Stmt}(hf: ∀x∈l,f x=some (p x)){n:Nat}(hl:l.length<n)(hl2:l.length≤1000000):eN n l f=some (l.any p):=by obtain⟨r,h1,h2⟩:=L0 hf hl hl2;unfold eN kN;rw [h1,←h2];rfl
theorem I0{f:Access→Option Bool}{p:Access→Bool}{l:List Access}(hf: ∀x∈l,f x=some (p x)){n:Nat}(hl:l.length<n)(hl2:l.length≤1000000):dZ n l f=some (l.any p):=by obtain⟨r,h1,h2⟩:=L0 hf hl hl2;unfold dZ iU;rw [h1,←h2];rfl
theorem mK{α:Type}{l:List α}{p:Nat→α→Bool}{Q:Bool→Prop}{body:(Int→Option Bool)→Int→Option Bool}{n:Nat}(hl:l.length<n)(hl2:l.length≤1000000)
  (hstep: ∀again (i:Nat) x,l[i]? =some x→(p i x=true→Ev (again ((i:Int)+1)) Q)→(p i x=false→Q false)→Ev (body again (i:Int)) Q)
  (hend: ∀again,(∀(i:Nat) x,l[i]? =some x→p i x=true)→Ev (body again (l.length:Int)) Q) (hbad:(∃(i:Nat) (x:α),l[i]? =some x∧p i x=false)→Q false):Ev (aL body n 0) Q:=by
 refine Ev.loop (fun x:Int=> ∃i:Nat,x=i∧i≤l.length∧ ∀(j:Nat) y,j<i→l[j]? =some y→p j y=true) (fun x:Int=>l.length-x.toNat) ?_ n 0 ⟨0,rfl,by omega,fun j y h=>by omega⟩ (by simp;omega);rintro again x ⟨i,rfl,hi,ha⟩ hr;by_cases hlt:i<l.length
 ·have hx:=cI hlt;refine hstep again i _ hx (fun hp=>hr _ ⟨i+1,by omega,by omega,fun j y hj hy=>?_⟩ (by omega)) fun hp=>hbad ⟨i,_,hx,hp⟩;by_cases hji:j=i
  ·subst hji;rw [hx] at hy;cases hy;exact hp
  exact ha j y (by omega) hy
 have hil:i=l.length:=by omega
 subst hil;exact hend again fun j y hy=>ha j y (cL.1 hy).1 hy
def fC(a:Affine):Bool:=decide (a.coefs.length=4)&&(decide (-99≤a.const∧a.const≤99)&&a.coefs.all fun c=>decide (-9≤c∧c≤9))
theorem zT{a:Affine}(h:fC a=true):a.coefs.length=4∧yN 99 a.const∧ ∀c∈a.coefs,yN 9 c:=by simp only [fC,Bool.and_eq_true,decide_eq_true_eq,List.all_eq_true] at h;exact⟨h.1,h.2.1,h.2.2⟩
theorem dH(n:Nat)(x a b:Int):cH n x a b=some (decide (a≤x∧x≤b)):=by unfold cH;by_cases h1:a≤x<;>by_cases h2:x≤b<;>simp [jn,h1,h2]
theorem qE{n:Nat}(hn:5000≤n)(a:Affine)(ha:a.coefs.length≤1000):fX n a=some (fC a):=by
 have hf: ∀x∈a.coefs,fS n x=some (!decide (-9≤x∧x≤9)):=fun x _=>by unfold fS;rw [dH];rfl
 have hc:=mD (n:=n) hf (by omega) (by omega);unfold fX B5;rw [dH];simp only [jn,Option.bind];rw [hc];unfold fC;have e:(a.coefs.any fun x=> !decide (-9≤x∧x≤9))= !(a.coefs.all fun c=>decide (-9≤c∧c≤9)):=by
  rw [vAV];simp
 rw [e];by_cases h1:a.coefs.length=4
 ·rw [decide_eq_true (show(a.coefs.length:Int)=4 by omega),decide_eq_true h1];generalize decide (-99≤a.const∧a.const≤99)=b;cases b<;>simp
 rw [decide_eq_false (show¬(a.coefs.length:Int)=4 by omega),decide_eq_false h1];rfl
theorem tC(n:Nat)(x m:Int)(hm:0≤m∧m≤1000000000):kI n x m=some (decide (-m≤x∧x≤m)):=by
 unfold kI;rw [aK (by omega)];by_cases h1: -m≤x<;>by_cases h2:x≤m
 ·simp [jn,h1,h2]
 ·simp [jn,h1,h2]
 ·simp [jn,h1,h2]
 simp [jn,h1,h2]
theorem kJ{n:Nat}(hn:5000≤n)(a:Affine)(ha:a.coefs.length≤1000):eI n a=some (fC a):=by
 refine Ev.eq ?_;unfold eI;refine mK (l:=a.coefs) (p:=fun _ c=>decide (-9≤c∧c≤9)) (by omega) (by omega) (fun again i x hx hgo hno=>?_) (fun again hall=>?_) (fun⟨i,x,hx,hp⟩=>?_)
 ·rw [decide_eq_true (show(i:Int)<(a.coefs.length:Int) by have:=(cL.1 hx).1;omega)];refine aA (aM hx) (aA (tC n x 9 (by omega)) ?_);have hi:=(cL.1 hx).1;cases hp:decide (-9≤x∧x≤9) with
  |true=>show Ev (again _) _;rw [aK (by omega)];exact hgo hp
  |false=>exact Ev.some (hno hp)
 ·rw [decide_eq_false (show¬(a.coefs.length:Int)<(a.coefs.length:Int) by omega)];have e:a.coefs.all (fun c=>decide (-9≤c∧c≤9))=true:=vAE.2 fun c hc=>by obtain⟨i,hi⟩:=vAH hc;exact hall i c hi
  refine Ev.cond (fun h=>(by cases h)) fun _=>?_;unfold fC;rw [e];refine Ev.jn (fun z:Bool=>z=(decide (a.coefs.length=4)&&(decide (-99≤a.const∧a.const≤99)&&true))) (fun j hj=>?_) fun z hz=>Ev.some hz;refine aH (fun h=>aA (tC n a.const 99 (by omega)) (hj _ ?_)) fun h=>hj _ ?_
  ·rw [decide_eq_true (show a.coefs.length=4 by omega)];simp
  rw [decide_eq_false (show¬a.coefs.length=4 by omega)];rfl
 unfold fC;have e:a.coefs.all (fun c=>decide (-9≤c∧c≤9))=false:=vAL.2 ⟨x,cF hx,by rw [hp];simp⟩;rw [e];simp
def fA(a:Affine)(p:List Int):Int:=a.const+dot a.coefs p
def ptB(M:Int)(p:List Int):Prop:= ∀x∈p,yN M x
theorem u6{a:Affine}(ha:fC a=true){p:List Int}(hp:p.length≤4){M:Int}(hM:0≤M∧M≤1000000000)(hB:ptB M p)(i:Nat)(hi:i≤p.length):yN 1000000000000 (a.const+dot a.coefs (p.take i)):=by
 obtain⟨h1,h2,h3⟩:=zT ha;have h4:=aIY (M:=M) hM.1 (cs:=a.coefs) (xs:=p.take i) h3 fun x hx=>hB x (vAz hx);have h5:(p.take i).length≤4:=by simp;omega
 have h6:9*M*((p.take i).length:Int)≤9*M*4:=Int.mul_le_mul_of_nonneg_left (by omega) (by omega);simp only [yN] at*;omega
theorem aGz{n:Nat}(hn:5000≤n){a:Affine}(ha:fC a=true){p:List Int}(hp:p.length≤4){M:Int}(hM:0≤M∧M≤1000000000)(hB:ptB M p):cK n a p=some (fA a p):=by
 obtain⟨h1,h2,h3⟩:=zT ha;refine Ev.eq ?_;unfold cK;refine Ev.loop (fun x:Int×Int=> ∃i:Nat,x.2=i∧i≤p.length∧x.1=a.const+dot a.coefs (p.take i)) (fun x=>p.length-x.2.toNat) ?_ n _ ⟨0,rfl,by omega,by simp [aBE]⟩ (by simp;omega);rintro again ⟨x,k⟩ ⟨i,hk,hi,hx⟩ hr;dsimp only at hk hx⊢;subst hk;refine aH (fun hlt=>?_) fun hge=>Ev.some ?_
 ·have hlt:i<p.length:=by omega
  have hp2:=cI hlt;have hc2:=cI (show i<a.coefs.length by omega);have hd:=aC1 hc2 hp2;have e1:=u6 ha hp hM hB i hi;have e2:=u6 ha hp hM hB (i+1) (by omega);rw [hd] at e2;have e3:=aHX (by omega) hM.1 (h3 _ (cF hc2)) (hB _ (cF hp2));refine aA (aM hp2) (aA (aM hc2) ?_);simp only [yN] at e1 e2 e3;rw [aK (n:=a.coefs[i]*p[i]) (by omega),aK (by omega),aK (by omega)];refine hr _ ⟨i+1,by dsimp only;omega,by omega,?_⟩ (by dsimp only;omega);dsimp only;rw [hd,hx];omega
 have:i=p.length:=by omega
 rw [hx,this,pB];rfl
theorem aGi{n:Nat}(hn:5000≤n){a:Affine}(ha:fC a=true){p:List Int}(hp:p.length≤4){M:Int}(hM:0≤M∧M≤1000000000)(hB:ptB M p):iE n a p=some (fA a p):=by
 obtain⟨h1,h2,h3⟩:=zT ha;refine Ev.eq ?_;unfold iE;refine Ev.loop (fun x:Int×Int=> ∃i:Nat,x.2=i∧i≤p.length∧x.1=a.const+dot a.coefs (p.take i)) (fun x=>p.length-x.2.toNat) ?_ n _ ⟨0,rfl,by omega,by simp [aBE]⟩ (by simp;omega);rintro again ⟨x,k⟩ ⟨i,hk,hi,hx⟩ hr;dsimp only at hk hx⊢;subst hk;refine Ev.jn (fun z=>z=decide (i<p.length)) (fun j hj=>aH (fun h=>hj _ ?_) fun h=>hj _ ?_) fun z hz=>?_
 ·rw [decide_eq_true (show i<p.length by omega),decide_eq_true (show(i:Int)<(a.coefs.length:Int) by omega)]
 ·rw [decide_eq_false (show¬i<p.length by omega)]
 subst hz;refine aH (fun hlt=>?_) fun hge=>Ev.some ?_
 ·have hp2:=cI hlt;have hc2:=cI (show i<a.coefs.length by omega);have hd:=aC1 hc2 hp2;have e1:=u6 ha hp hM hB i hi;have e2:=u6 ha hp hM hB (i+1) (by omega);rw [hd] at e2;have e3:=aHX (by omega) hM.1 (h3 _ (cF hc2)) (hB _ (cF hp2));refine aA (aM hc2) (aA (aM hp2) ?_);simp only [yN] at e1 e2 e3;rw [aK (n:=a.coefs[i]*p[i]) (by omega),aK (by omega),aK (by omega)];refine hr _ ⟨i+1,by dsimp only;omega,by omega,?_⟩ (by dsimp only;omega);dsimp only;rw [hd,hx];omega
 have:i=p.length:=by omega
 rw [hx,this,pB];rfl
theorem bY{R:Type}{Q:R→Prop}{A B:Option R}(h:Ev A Q):Ev (bif true then A else B) Q:=h
theorem bT{R:Type}{Q:R→Prop}{A B:Option R}(h:Ev B Q):Ev (bif false then A else B) Q:=h
def gJ:List Int→Nat
 | []=>0
 |c::cs=>if gJ cs=0 then(if c=0 then 0 else 1) else gJ cs+1
theorem F6: ∀(l:List Int) (c:Int),gJ (l++[c])=if c=0 then gJ l else l.length+1
 | [],c=>by simp [gJ]
 |d::l,c=>by
  have ih:=F6 l c;simp only [List.cons_append,gJ,ih];by_cases hc:c=0
  ·simp [hc]
  simp [hc]
theorem F5{l:List Int}{i:Nat}{c:Int}(h:l[i]? =some c):gJ (l.take (i+1))=if c=0 then gJ (l.take i) else i+1:=by have hi:=(cL.1 h).1;rw [xC,h];show gJ (l.take i++[c])=_;rw [F6,qS,vBt (Nat.le_of_lt hi)]
def SmA(a:Affine):Prop:=a.coefs.length≤1000
def I4(l:List Affine):Prop:=l.length≤1000∧ ∀a∈l,SmA a
theorem wJ{n:Nat}(hn:5000≤n){a:Affine}(ha:SmA a):mQ n a=some (gJ a.coefs:Int):=by
 have ha:a.coefs.length≤1000:=ha;refine Ev.eq ?_;unfold mQ;refine Ev.loop (fun x:Int×Int=> ∃i:Nat,x.2=i∧i≤a.coefs.length∧x.1=(gJ (a.coefs.take i):Int)) (fun x=>a.coefs.length-x.2.toNat) ?_ n _ ⟨0,rfl,by omega,by simp [gJ]⟩ (by simp;omega);rintro again ⟨x,k⟩ ⟨i,hk,hi,hx⟩ hr;dsimp only at hk hx⊢;subst hk;refine aH (fun hlt=>?_) fun hge=>Ev.some ?_
 ·have hlt:i<a.coefs.length:=by omega
  have hc:=cI hlt;have hd:=F5 hc;refine Ev.jn (fun z:Int=>z=(gJ (a.coefs.take (i+1)):Int)) (fun j hj=>aA (aM hc) (eU (fun h0=>hj _ ?_) fun h0=>hj _ ?_)) fun z hz=>?_
  ·rw [hd,if_neg h0,aK (by omega)];omega
  ·rw [hd,if_pos h0,hx]
  rw [aK (by omega)];exact hr _ ⟨i+1,by dsimp only;omega,by omega,hz⟩ (by dsimp only;omega)
 have:i=a.coefs.length:=by omega
 rw [hx,this,pB]
theorem Q8{n:Nat}(hn:5000≤n){a:Affine}(ha:SmA a):eZ n a=some (gJ a.coefs:Int):=by
 have ha:a.coefs.length≤1000:=ha;refine Ev.eq ?_;unfold eZ;refine Ev.loop (fun x:Int=> ∃i:Nat,x=i∧i≤a.coefs.length∧gJ a.coefs=gJ (a.coefs.take i)) (fun x=>x.toNat) ?_ n _ ⟨a.coefs.length,rfl,by omega,by rw [pB]⟩ (by simp;omega);rintro again x ⟨i,rfl,hi,hx⟩ hr;cases i with
 |zero=>
  refine Ev.jn (fun z=>z=false) (fun j hj=>aH (fun h=>absurd h (by decide)) fun h=>hj _ rfl) fun z hz=>?_;subst hz;exact Ev.some (by rw [hx];rfl)
 |succ i=>
  have hlt:i<a.coefs.length:=by omega
  have hc:=cI hlt;have hd:=F5 hc;have e:wr (((i+1:Nat):Int)-1)=(i:Int):=by rw [aK (by omega)];omega
  rw [e];refine Ev.jn (fun z=>z=decide (a.coefs[i]=0)) (fun j hj=>aH (fun h=>aA (aM hc) (hj _ rfl)) fun h=>absurd (show(0:Int)<((i+1:Nat):Int) by omega) h) fun z hz=>?_;subst hz;refine aH (fun h0=>?_) fun h0=>Ev.some ?_
  ·exact hr _ ⟨i,rfl,by omega,by rw [hx,hd,if_pos h0]⟩ (by omega)
  rw [hx,hd,if_neg h0]
def b6(a:Affine)(d:Int):Bool:=fC a&&decide ((gJ a.coefs:Int)≤d)
def cN(l:List Affine)(d:Int):Bool:=l.all (fun a=>b6 a d)&&decide (1≤l.length∧l.length≤2)
theorem ltd(a b:Int):decide (a<b)= !decide (b≤a):=by
 by_cases h:a<b
 ·rw [decide_eq_true h,decide_eq_false (by omega)];rfl
 rw [decide_eq_false h,decide_eq_true (by omega)];rfl
theorem D9{n:Nat}(hn:5000≤n){l:List Affine}(hl:I4 l)(d:Int):tI n l d=some (cN l d):=by
 obtain⟨h0,h1⟩:=hl;refine Ev.eq ?_;unfold tI;refine mK (l:=l) (p:=fun _ a=>b6 a d) (by omega) (by omega) (fun again i x hx hgo hno=>?_) (fun again hall=>?_) (fun⟨i,x,hx,hp⟩=>?_)
 ·have hi:=(cL.1 hx).1;have hm:=h1 x (cF hx);rw [decide_eq_true (show(i:Int)<(l.length:Int) by omega)];refine bY (Ev.jn (fun z=>z= !b6 x d) (fun j hj=>aA (aM hx) (aA (kJ hn x hm) ?_)) fun z hz=>?_)
  ·cases ha:fC x with
   |false=>exact hj _ (by unfold b6;rw [ha];rfl)
   |true=>exact aA (wJ hn hm) (hj _ (by unfold b6;rw [ha,ltd];simp))
  subst hz;cases hb:b6 x d with
  |true=>show Ev (again _) _;rw [aK (by omega)];exact hgo hb
  |false=>exact Ev.some (hno hb)
 ·rw [decide_eq_false (show¬(l.length:Int)<(l.length:Int) by omega)];have e:l.all (fun a=>b6 a d)=true:=vAE.2 fun c hc=>by obtain⟨i,hi⟩:=vAH hc;exact hall i c hi
  unfold cN;rw [e];refine bT (Ev.jn (fun z=>z=decide (1≤l.length∧l.length≤2)) (fun j hj=>aH (fun h=>hj _ ?_) fun h=>hj _ ?_) fun z hz=>Ev.some (by rw [hz];rfl))
  ·by_cases h2:l.length≤2
   ·rw [decide_eq_true (show(l.length:Int)≤2 by omega),decide_eq_true (by omega)]
   rw [decide_eq_false (show¬(l.length:Int)≤2 by omega),decide_eq_false (by omega)]
  rw [decide_eq_false (by omega)]
 unfold cN;rw [vAL.2 ⟨x,cF hx,by rw [hp];simp⟩];rfl
theorem R0{n:Nat}(hn:5000≤n){a:Affine}(ha:SmA a)(d:Int):gU n a d=some (!b6 a d):=by
 unfold gU;rw [qE hn a ha];simp only [jn,Option.bind];cases hb:fC a with
 |false=>simp [b6,hb]
 |true=>
  rw [Q8 hn ha];simp only [b6,hb,Bool.not_true,cond_false,Bool.true_and];rw [ltd]
theorem rD(n k:Nat):cH n (k:Int) 1 2=some (decide (1≤k∧k≤2)):=by
 rw [dH];congr 1;by_cases h:1≤k∧k≤2
 ·rw [decide_eq_true h,decide_eq_true (by omega)]
 rw [decide_eq_false h,decide_eq_false (by omega)]
theorem vW{n:Nat}(hn:5000≤n){l:List Affine}(hl:I4 l)(d:Int):nH n l d=some (cN l d):=by
 obtain⟨h0,h1⟩:=hl;unfold nH;rw [rD];have hc:=sI (n:=n) (f:=fun q0=>gU n q0 d) (p:=fun a=> !b6 a d) (l:=l) (fun x hx=>R0 hn (h1 x hx) d) (by omega) (by omega);simp only [jn,Option.bind];rw [hc];unfold cN;have e:(l.any fun a=> !b6 a d)= !(l.all fun a=>b6 a d):=by
  rw [vAV];simp
 rw [e];cases decide (1≤l.length∧l.length≤2)<;>simp
def Q6{α:Type}(p:Nat→α→Bool)(l:List α):Bool:=l.zipIdx.all fun q=>p q.2 q.1
theorem oJ{α:Type}{p:Nat→α→Bool}{l:List α}(h: ∀(i:Nat) x,l[i]? =some x→p i x=true):Q6 p l=true:=
 vAE.2 fun q hq=>h q.2 q.1 (vBi.1 hq)
theorem l5{α:Type}{p:Nat→α→Bool}{l:List α}{i:Nat}{x:α}(h:l[i]? =some x)(hp:p i x=false):Q6 p l=false:=
 vAL.2 ⟨(x,i),vBi.2 h,by rw [hp];simp⟩
theorem Q5{α:Type}{p:Nat→α→Bool}{l:List α}(h:Q6 p l=true){i:Nat}{x:α}(hx:l[i]? =some x):p i x=true:=
 vAE.1 h (x,i) (vBi.2 hx)
def jN(nest:List Loop):Bool:=Q6 (fun i l=>cN l.lo (i:Int)&&cN l.hi (i:Int)) nest&&decide (nest.length≤4)
def SmN(nest:List Loop):Prop:=nest.length≤1000∧ ∀l∈nest,I4 l.lo∧I4 l.hi
theorem R3{n:Nat}(hn:5000≤n){nest:List Loop}(h:SmN nest):oP n nest=some (jN nest):=by
 obtain⟨h0,h1⟩:=h;refine Ev.eq ?_;unfold oP;refine mK (l:=nest) (p:=fun i l=>cN l.lo (i:Int)&&cN l.hi (i:Int)) (by omega) (by omega) (fun again i x hx hgo hno=>?_) (fun again hall=>?_) (fun⟨i,x,hx,hp⟩=>?_)
 ·have hi:=(cL.1 hx).1;obtain⟨m1,m2⟩:=h1 x (cF hx);rw [decide_eq_true (show(i:Int)<(nest.length:Int) by omega)];refine aA (aM hx) (Ev.jn (fun z=>z= !(cN x.lo (i:Int)&&cN x.hi (i:Int))) (fun j hj=>aA (vW hn m1 _) ?_) fun z hz=>?_)
  ·cases ha:cN x.lo (i:Int) with
   |false=>exact hj _ (by rw [ha];rfl)
   |true=>exact aA (vW hn m2 _) (hj _ (by rw [ha];rfl))
  subst hz;cases hb:(cN x.lo (i:Int)&&cN x.hi (i:Int)) with
  |true=>show Ev (again _) _;rw [aK (by omega)];exact hgo hb
  |false=>exact Ev.some (hno hb)
 ·rw [decide_eq_false (show¬(nest.length:Int)<(nest.length:Int) by omega)];refine Ev.some ?_;unfold jN;rw [oJ hall,W0];exact decide_eq_decide.2 (by omega)
 unfold jN;rw [l5 hx hp];rfl
theorem N7{n:Nat}(hn:5000≤n){nest:List Loop}(h:SmN nest):oE n nest=some (jN nest):=by
 obtain⟨h0,h1⟩:=h;unfold oE;by_cases h4:nest.length≤4
 ·rw [decide_eq_true (show(nest.length:Int)≤4 by omega)];refine Ev.eq ?_;refine mK (l:=nest) (p:=fun i l=>cN l.lo (i:Int)&&cN l.hi (i:Int)) (by omega) (by omega) (fun again i x hx hgo hno=>?_) (fun again hall=>?_) (fun⟨i,x,hx,hp⟩=>?_)
  ·have hi:=(cL.1 hx).1;obtain⟨m1,m2⟩:=h1 x (cF hx);rw [decide_eq_true (show(i:Int)<(nest.length:Int) by omega)];refine Ev.jn (fun z=>z=true) (fun j hj=>bY (hj _ rfl)) fun z hz=>?_;subst hz;refine bY (Ev.jn (fun z=>z= !(cN x.lo (i:Int)&&cN x.hi (i:Int))) (fun j hj=>aA (aM hx) (aA (D9 hn m1 _) ?_)) fun z hz=>?_)
   ·cases ha:cN x.lo (i:Int) with
    |false=>exact hj _ (by rw [ha];rfl)
    |true=>exact aA (D9 hn m2 _) (hj _ (by rw [ha];rfl))
   subst hz;cases hb:(cN x.lo (i:Int)&&cN x.hi (i:Int)) with
   |true=>show Ev (again _) _;rw [aK (by omega)];exact hgo hb
   |false=>exact Ev.some (hno hb)
  ·rw [decide_eq_false (show¬(nest.length:Int)<(nest.length:Int) by omega)];refine Ev.jn (fun z=>z=false) (fun j hj=>bT (hj _ rfl)) fun z hz=>?_;subst hz;refine Ev.some ?_;unfold jN;rw [oJ hall,decide_eq_true h4];rfl
  unfold jN;rw [l5 hx hp];rfl
 obtain⟨k,rfl⟩: ∃k,n=k+1:=⟨n-1,by omega⟩
 rw [decide_eq_false (show¬(nest.length:Int)≤4 by omega)];unfold jN;rw [decide_eq_false h4,vBN];simp only [aL,jn];cases decide ((0:Int)<(nest.length:Int))<;>rfl
def mx:List Int→Int
 | []=>0
 |x::xs=>xs.foldl max x
def mn:List Int→Int
 | []=>0
 |x::xs=>xs.foldl min x
theorem aKa{l:List Int}(h:l≠[])(x:Int):mx (l++[x])=max (mx l) x:=by
 cases l with
 |nil=>exact absurd rfl h
 |cons a l=>simp [mx,List.foldl_append]
theorem aKc{l:List Int}(h:l≠[])(x:Int):mn (l++[x])=min (mn l) x:=by
 cases l with
 |nil=>exact absurd rfl h
 |cons a l=>simp [mn,List.foldl_append]
theorem aK5: ∀(l:List Int) (a:Int),a≤l.foldl max a
 | [],a=>zV _
 |x::l,a=>Int.le_trans (Int.le_max_left a x) (aK5 l (max a x))
theorem aK6: ∀(l:List Int) (a:Int),l.foldl min a≤a
 | [],a=>zV _
 |x::l,a=>Int.le_trans (aK6 l (min a x)) (Int.min_le_left a x)
def evs(l:List Affine)(p:List Int):List Int:=l.map fun a=>fA a p
def kM(l:Loop)(p:List Int):Int:=mx (evs l.lo p)
def qR(l:Loop)(p:List Int):Int:=mn (evs l.hi p)
def nZ(k:Nat)(p:List Int):Prop:=p.length=k∧k≤4∧ptB (100*40^k) p
theorem O4{k:Nat}(h:k≤4):(0:Int)≤100*40^k∧(100:Int)*40^k≤1000000000:=by
 match k,h with
 |0,_=>decide
 |1,_=>decide
 |2,_=>decide
 |3,_=>decide
 |4,_=>decide
theorem s9{l:List Affine}{d:Int}(h:cN l d=true):1≤l.length∧l.length≤2∧ ∀a∈l,fC a=true:=by
 simp only [cN,Bool.and_eq_true,decide_eq_true_eq,List.all_eq_true] at h;refine⟨h.2.1,h.2.2,fun a ha=>?_⟩
 have:=h.1 a ha;simp only [b6,Bool.and_eq_true] at this;exact this.1
theorem aIr{a:Affine}(ha:fC a=true){k:Nat}{p:List Int}(hp:nZ k p)(hk:k≤3): -(40*(100*40^k))≤fA a p∧fA a p≤40*(100*40^k):=by
 obtain⟨h1,h2,h3⟩:=zT ha;obtain⟨p1,p2,p3⟩:=hp;obtain⟨q1,q2⟩:=O4 (k:=k) (by omega);have hq:(100:Int)≤100*40^k:=by
  match k,hk with
  |0,_=>decide
  |1,_=>decide
  |2,_=>decide
  |3,_=>decide
 generalize (100*40^k:Int)=M at*;have h4:=aIY (M:=M) q1 (cs:=a.coefs) (xs:=p) h3 fun x hx=>p3 x hx;have h6:9*M*(p.length:Int)≤9*M*3:=Int.mul_le_mul_of_nonneg_left (by omega) (by omega);simp only [yN] at*;unfold fA;omega
theorem aHG{n:Nat}(hn:5000≤n){a:Affine}(ha:fC a=true){k:Nat}{p:List Int}(hp:nZ k p):iE n a p=some (fA a p):=
 aGi hn ha (by have:=hp.1;have:=hp.2.1;omega) (O4 hp.2.1) hp.2.2
theorem aGA{n:Nat}(hn:5000≤n){a:Affine}(ha:fC a=true){k:Nat}{p:List Int}(hp:nZ k p):cK n a p=some (fA a p):=
 aGz hn ha (by have:=hp.1;have:=hp.2.1;omega) (O4 hp.2.1) hp.2.2
theorem kZ{l:List Affine}{p:List Int}{i:Nat}{a:Affine}(h:l[i]? =some a):(evs l p)[i]? =some (fA a p):=by unfold evs;rw [List.getElem?_map,h];rfl
theorem K1(l:List Affine)(p:List Int):(evs l p).length=l.length:=lT ..
theorem aFn{α:Type}{l:List α}{i:Nat}(h:1≤i)(hl:1≤l.length):l.take i≠[]:=by
 intro e
 have:(l.take i).length=0:=by rw [e];rfl
 rw [qS] at this;omega
theorem aFx{l:List Int}{i:Nat}{x:Int}(h:l[i]? =some x)(hi:1≤i):mx (l.take (i+1))=max (mx (l.take i)) x:=by have:=(cL.1 h).1;rw [xC,h];exact aKa (aFn hi (by omega)) x
theorem aFz{l:List Int}{i:Nat}{x:Int}(h:l[i]? =some x)(hi:1≤i):mn (l.take (i+1))=min (mn (l.take i)) x:=by have:=(cL.1 h).1;rw [xC,h];exact aKc (aFn hi (by omega)) x
theorem aEb{l:List Int}{x:Int}(h:l[0]? =some x):mx (l.take 1)=x:=by
 cases l with
 |nil=>simp at h
 |cons a l=>simp at h;subst h;rfl
theorem aEc{l:List Int}{x:Int}(h:l[0]? =some x):mn (l.take 1)=x:=by
 cases l with
 |nil=>simp at h
 |cons a l=>simp at h;subst h;rfl
theorem M8{n:Nat}(hn:5000≤n){l:Loop}{d d':Int}(h1:cN l.lo d=true)(h2:cN l.hi d'=true){k:Nat}{p:List Int}(hp:nZ k p):pU n l p=some (kM l p,qR l p):=by
 obtain⟨a1,a2,a3⟩:=s9 h1;obtain⟨b1,b2,b3⟩:=s9 h2;have g1:=cI (show 0<l.lo.length by omega);have g2:=cI (show 0<l.hi.length by omega);refine Ev.eq ?_;unfold pU;refine aA (aM (i:=0) g1) (aA (aHG hn (a3 _ (cF g1)) hp) (aA (aM (i:=0) g2) (aA (aHG hn (b3 _ (cF g2)) hp) ?_)));refine Ev.loop (fun x:Int×Int=> ∃i:Nat,x.2=i∧1≤i∧i≤l.lo.length∧x.1=mx ((evs l.lo p).take i)) (fun x=>l.lo.length-x.2.toNat) ?_ n _ ⟨1,rfl,by omega,by omega,(aEb (kZ g1)).symm⟩ (by dsimp only;omega);rintro again ⟨x,z⟩ ⟨i,hz,hi1,hi,hx⟩ hr;dsimp only at hz hx⊢;subst hz;refine aH (fun hlt=>?_) fun hge=>?_
 ·have g:=cI (show i<l.lo.length by omega);have e:=aFx (kZ (p:=p) g) hi1;refine Ev.jn (fun z=>z=mx ((evs l.lo p).take (i+1))) (fun j hj=>aA (aM g) (aA (aHG hn (a3 _ (cF g)) hp) (aH (fun h=>hj _ ?_) fun h=>hj _ ?_))) fun z hz=>?_
  ·rw [e,←hx];omega
  ·rw [e,←hx];omega
  rw [aK (by omega)];exact hr _ ⟨i+1,by dsimp only;omega,by omega,by omega,hz⟩ (by dsimp only;omega)
 have hie:i=l.lo.length:=by omega
 have hx':x=kM l p:=by rw [hx,hie,←K1 l.lo p,pB];rfl
 refine Ev.loop (fun x:Int×Int=> ∃i:Nat,x.2=i∧1≤i∧i≤l.hi.length∧x.1=mn ((evs l.hi p).take i)) (fun x=>l.hi.length-x.2.toNat) ?_ n _ ⟨1,rfl,by omega,by omega,(aEc (kZ g2)).symm⟩ (by dsimp only;omega);rintro again2 ⟨y,z⟩ ⟨i,hz,hi1,hi,hy⟩ hr2;dsimp only at hz hy⊢;subst hz;refine aH (fun hlt=>?_) fun hge=>Ev.some ?_
 ·have g:=cI (show i<l.hi.length by omega);have e:=aFz (kZ (p:=p) g) hi1;refine Ev.jn (fun z=>z=mn ((evs l.hi p).take (i+1))) (fun j hj=>aA (aM g) (aA (aHG hn (b3 _ (cF g)) hp) (aH (fun h=>hj _ ?_) fun h=>hj _ ?_))) fun z hz=>?_
  ·rw [e,←hy];omega
  ·rw [e,←hy];omega
  rw [aK (by omega)];exact hr2 _ ⟨i+1,by dsimp only;omega,by omega,by omega,hz⟩ (by dsimp only;omega)
 have hie:i=l.hi.length:=by omega
 rw [hx',hy,hie,←K1 l.hi p,pB];rfl
theorem aGx{n:Nat}(hn:5000≤n){l:Loop}{d d':Int}(h1:cN l.lo d=true)(h2:cN l.hi d'=true){k:Nat}{p:List Int}(hp:nZ k p):oU n l p=some (kM l p,qR l p):=by
 obtain⟨a1,a2,a3⟩:=s9 h1;obtain⟨b1,b2,b3⟩:=s9 h2;have g1:=cI (show 0<l.lo.length by omega);have g2:=cI (show 0<l.hi.length by omega);refine Ev.eq ?_;unfold oU;refine aA (aM (i:=0) g1) (aA (aGA hn (a3 _ (cF g1)) hp) (aA (aM (i:=0) g2) (aA (aGA hn (b3 _ (cF g2)) hp) ?_)));refine Ev.loop (fun x:Int×Int=> ∃i:Nat,x.2=i∧i≤l.lo.length∧x.1=mx ((evs l.lo p).take (max i 1))) (fun x=>l.lo.length-x.2.toNat) ?_ n _ ⟨0,rfl,by omega,(aEb (kZ g1)).symm⟩ (by dsimp only;omega);rintro again ⟨x,z⟩ ⟨i,hz,hi,hx⟩ hr;dsimp only at hz hx⊢;subst hz;refine aH (fun hlt=>?_) fun hge=>?_
 ·have g:=cI (show i<l.lo.length by omega);refine aA (aM g) (aA (aGA hn (a3 _ (cF g)) hp) ?_);rw [aK (by omega)];refine hr _ ⟨i+1,by dsimp only;omega,by omega,?_⟩ (by dsimp only;omega);dsimp only;rw [show max (i+1) 1=i+1 by omega];cases i with
  |zero=>rw [hx,show max 0 1=1 by rfl,mM,aEb (kZ g)];omega
  |succ i=>rw [aFx (kZ (p:=p) g) (by omega),hx,show max (i+1) 1=i+1 by omega]
 have hie:i=l.lo.length:=by omega
 have hx':x=kM l p:=by rw [hx,hie,Nat.max_eq_left (by omega),←K1 l.lo p,pB];rfl
 refine Ev.loop (fun x:Int×Int=> ∃i:Nat,x.2=i∧i≤l.hi.length∧x.1=mn ((evs l.hi p).take (max i 1))) (fun x=>l.hi.length-x.2.toNat) ?_ n _ ⟨0,rfl,by omega,(aEc (kZ g2)).symm⟩ (by dsimp only;omega);rintro again2 ⟨y,z⟩ ⟨i,hz,hi,hy⟩ hr2;dsimp only at hz hy⊢;subst hz;refine aH (fun hlt=>?_) fun hge=>Ev.some ?_
 ·have g:=cI (show i<l.hi.length by omega);refine aA (aM g) (aA (aGA hn (b3 _ (cF g)) hp) ?_);rw [aK (by omega)];refine hr2 _ ⟨i+1,by dsimp only;omega,by omega,?_⟩ (by dsimp only;omega);dsimp only;rw [show max (i+1) 1=i+1 by omega];cases i with
  |zero=>rw [hy,show max 0 1=1 by rfl,mM,aEc (kZ g)];omega
  |succ i=>rw [aFz (kZ (p:=p) g) (by omega),hy,show max (i+1) 1=i+1 by omega]
 have hie:i=l.hi.length:=by omega
 rw [hx',hy,hie,Nat.max_eq_left (by omega),←K1 l.hi p,pB];rfl
theorem J4{l:Loop}{d d':Int}(h1:cN l.lo d=true)(h2:cN l.hi d'=true){k:Nat}{p:List Int}(hp:nZ k p)(hk:k≤3){v:Int}(hv:kM l p≤v∧v<qR l p):nZ (k+1) (p++[v]):=by
 obtain⟨a1,a2,a3⟩:=s9 h1;obtain⟨b1,b2,b3⟩:=s9 h2;have e1: -(40*(100*40^k))≤kM l p:=by
  cases hl:l.lo with
  |nil=>rw [hl] at a1;simp at a1
  |cons a as=>
   have:=(aIr (a3 a (by rw [hl];simp)) hp hk).1;unfold kM evs;rw [hl];exact Int.le_trans this (aK5 _ _)
 have e2:qR l p≤40*(100*40^k):=by
  cases hl:l.hi with
  |nil=>rw [hl] at b1;simp at b1
  |cons a as=>
   have:=(aIr (b3 a (by rw [hl];simp)) hp hk).2;unfold qR evs;rw [hl];exact Int.le_trans (aK6 _ _) this
 obtain⟨p1,p2,p3⟩:=hp;have e3:(100*40^(k+1):Int)=40*(100*40^k):=by rw [Int.pow_succ];omega
 have q:=(O4 (k:=k) (by omega)).1;refine⟨by simp [p1],by omega,fun x hx=>?_⟩;rw [e3];rcases vO.1 hx with h|h
 ·have:=p3 x h;simp only [yN] at this⊢;omega
 simp at h;subst h;simp only [yN];omega
def pts:List Loop→List Int→List (List Int)
 | [],p=>[p]
 |l::ls,p=>(jZ (kM l p) (qR l p)).flatMap fun v=>pts ls (p++[v])
def wk:List Loop→List Int→Int
 | [],_=>1
 |l::ls,p=>1+((jZ (kM l p) (qR l p)).map fun v=>wk ls (p++[v])).sum
theorem m4{α:Type}(f:α→Int): ∀(l:List α),(∀x∈l,1≤f x)→(l.length:Int)≤(l.map f).sum
 | [],_=>by simp
 |x::l,h=>by have h1:=m4 f l fun y hy=>h y (by simp [hy]);have h2:=h x (by simp);simp only [List.map_cons,List.sum_cons,List.length_cons];omega
theorem aAW: ∀(ls:List Loop) (p:List Int),1≤wk ls p
 | [],p=>zV _
 |l::ls,p=>by have:=m4 (fun v=>wk ls (p++[v])) (jZ (kM l p) (qR l p)) fun v _=>aAW ls _;simp only [wk];omega
def Fit(nest:List Loop):Prop:=nest.length≤4∧ ∀(i:Nat) l,nest[i]? =some l→cN l.lo (i:Int)=true∧cN l.hi (i:Int)=true
theorem aBt{nest:List Loop}(h:jN nest=true):Fit nest:=by
 simp only [jN,Bool.and_eq_true,decide_eq_true_eq] at h;refine⟨h.2,fun i l hl=>?_⟩
 have:=Q5 h.1 hl;simpa [Bool.and_eq_true] using this
theorem u7{nest:List Loop}{k:Nat}{l:Loop}{ls:List Loop}(h:nest.drop k=l::ls):nest[k]? =some l∧nest.drop (k+1)=ls∧k<nest.length:=by
 have h1:(nest.drop k)[0]? =some l:=by rw [h];rfl
 rw [vAP,vBz] at h1;refine⟨h1,?_,(cL.1 h1).1⟩
 have:(nest.drop k).drop 1=ls:=by rw [h];rfl
 rwa [List.drop_drop] at this
theorem yX{nest:List Loop}{k:Nat}(h:nest.drop k=[])(hk:k≤nest.length):k=nest.length:=by
 have:(nest.drop k).length=0:=by rw [h];rfl
 rw [vBw] at this;omega
theorem fB(p:List Int)(h:p.length≤1000):app [] p=some p:=by rw [bI (by simp;omega)];rfl
theorem aCh(l:List Int)(f:Int→Int)(v:Int):((l++[v]).map f).sum=(l.map f).sum+f v:=by simp
theorem aJZ{lo v:Int}(h:lo≤v):((jZ lo v).length:Int)=v-lo:=by unfold jZ;simp;omega
theorem Z0{nest:List Loop}(hf:Fit nest): ∀(ls:List Loop) (n k:Nat) (p:List Int) (most:Int),5000+ls.length≤n→nest.drop k=ls→k≤nest.length→nZ k p→0≤most→most≤1200→
  Ev (s_l2Work n nest p most) (fun r=>(wk ls p≤most→r=wk ls p)∧(most<wk ls p→most<r)∧1≤r∧r≤most+1)
 | [],n,k,p,most,hn,hd,hk,hp,h0,h1=>by
  obtain⟨n,rfl⟩: ∃j,n=j+1:=⟨n-1,by omega⟩
  have hk':=yX hd hk;have hpl:=hp.1;unfold s_l2Work;rw [decide_eq_true (show(p.length:Int)=(nest.length:Int) by omega)];exact Ev.some ⟨fun _=>rfl,fun h=>by simp only [wk] at h;omega,by omega,by omega⟩
 |l::ls,n,k,p,most,hn,hd,hk,hp,h0,h1=>by
  obtain⟨n,rfl⟩: ∃j,n=j+1:=⟨n-1,by omega⟩
  obtain⟨d1,d2,d3⟩:=u7 hd;obtain⟨s1,s2⟩:=hf.2 k l d1;have hpl:=hp.1;have hk3:k≤3:=by have:=hf.1;omega
  simp only [List.length_cons] at hn;unfold s_l2Work;rw [decide_eq_false (show¬(p.length:Int)=(nest.length:Int) by omega)];refine bT (aA (x:=l) (by rw [hpl];exact aM d1) (aA (M8 (by omega) s1 s2 hp) ?_));let f:Int→Int:=fun v=>wk ls (p++[v]);have hfp: ∀v,1≤f v:=fun v=>aAW _ _;have hW:wk (l::ls) p=1+((jZ (kM l p) (qR l p)).map f).sum:=rfl;refine Ev.loop (fun x:Int×Int=>kM l p≤x.2∧(x.2≤qR l p∨x.2=kM l p)∧(1+((jZ (kM l p) x.2).map f).sum≤most→x.1=1+((jZ (kM l p) x.2).map f).sum)∧(most<1+((jZ (kM l p) x.2).map f).sum→most<x.1)∧1≤x.1∧x.1≤most+1)
   (fun x=>(most+1-x.1).toNat) ?_ n _ ⟨zV _,.inr rfl,fun _=>by rw [gQ (zV _)];rfl,fun h=>by rw [gQ (zV _)] at h;simp at h;dsimp only;omega,by dsimp only;omega,by dsimp only;omega⟩ (by dsimp only;omega)
  rintro again ⟨x,v⟩ ⟨i1,i2,i3,i4,i5,i6⟩ hr;dsimp only at i1 i2 i3 i4 i5 i6⊢;refine Ev.jn (fun z=>z=decide (v<qR l p∧x≤most)) (fun j hj=>aH (fun h=>hj _ ?_) fun h=>hj _ ?_) fun z hz=>?_
  ·by_cases hx:x≤most
   ·rw [decide_eq_true hx,decide_eq_true ⟨h,hx⟩]
   rw [decide_eq_false hx,decide_eq_false fun h=>hx h.2]
  ·rw [decide_eq_false fun h'=>h h'.1]
  subst hz;refine aH (fun⟨hv,hx⟩=>?_) fun hno=>Ev.some ?_
  ·have hsum:x=1+((jZ (kM l p) v).map f).sum:=i3 (by apply Int.not_lt.1;intro h;have:=i4 h;omega);have hp':=J4 s1 s2 hp hk3 ⟨i1,hv⟩;have e1:wr (most-x)=most-x:=by rw [aK (by omega)]
   rw [e1];refine aA (fB p (by omega)) (aA (bI (by simp;omega)) (aI (Z0 hf ls n (k+1) (p++[v]) (most-x) (by omega) d2 (by omega) hp' (by omega) (by omega)) fun r ⟨r1,r2,r3,r4⟩=>?_));have hvb:v<qR l p:=hv;have hvr: -1000000000≤v∧v≤1000000000:=by
    have h9:=hp'.2.2 v (by simp);have h8:=O4 hp'.2.1;simp only [yN] at h9;omega
   rw [aK (n:=v+1) (by omega),aK (n:=x+r) (by omega)];have hs:1+((jZ (kM l p) (v+1)).map f).sum=x+f v:=by rw [nB i1,aCh,hsum];omega
   refine hr _ ⟨by dsimp only;omega,.inl (by dsimp only;omega),?_,?_,by dsimp only;omega,by dsimp only;omega⟩ (by dsimp only;omega)
   ·dsimp only;rw [hs];intro h
    have:r=f v:=r1 (show f v≤most-x by omega);omega
   dsimp only;rw [hs];intro h
   have:most-x<r:=r2 (show most-x<f v by omega);omega
  have hmono:1+((jZ (kM l p) v).map f).sum≤wk (l::ls) p∧(qR l p≤v→1+((jZ (kM l p) v).map f).sum=wk (l::ls) p):=by
   rw [hW];by_cases h:v<qR l p
   ·refine⟨?_,fun h'=>by omega⟩;rw [uM i1 h,sY,List.sum_append,List.map_cons,List.sum_cons]
    have:=m4 f (jZ (v+1) (qR l p)) fun y _=>hfp y
    have:=hfp v;omega
   have:jZ (kM l p) v=jZ (kM l p) (qR l p):=by
    rcases i2 with h2|h2
    ·rw [show v=qR l p by omega]
    subst h2;rw [gQ (zV _),gQ (by omega)]
   rw [this];exact⟨zV _,fun _=>rfl⟩
  refine⟨fun h=>?_,fun h=>?_,i5,i6⟩
  ·have hx:=i3 (by omega);rw [hx];apply hmono.2;apply Int.not_lt.1;intro hv;exact hno ⟨hv,by omega⟩
  apply Int.not_le.1;intro hx;have hv:qR l p≤v:=by apply Int.not_lt.1;intro hv;exact hno ⟨hv,hx⟩
  have:=i4 (by rw [hmono.2 hv];exact h);omega
theorem tD{nest:List Loop}(hf:Fit nest): ∀(ls:List Loop) (n k:Nat) (p:List Int) (out:List (List Int)),5000+ls.length≤n→nest.drop k=ls→k≤nest.length→nZ k p→wk ls p≤1200→out.length≤120→
  Ev (s_l2Points n out nest p) (fun r=>(out.length+(pts ls p).length≤120→r=out++pts ls p)∧(120<out.length+(pts ls p).length→120<r.length))
 | [],n,k,p,out,hn,hd,hk,hp,h0,h1=>by
  obtain⟨n,rfl⟩: ∃j,n=j+1:=⟨n-1,by omega⟩
  have hk':=yX hd hk;have hpl:=hp.1;have hf1:=hf.1;unfold s_l2Points;rw [decide_eq_true (show(p.length:Int)=(nest.length:Int) by omega)];refine bY (aA (fB p (by omega)) (aA (bI (by simp;omega)) (Ev.some ⟨fun _=>rfl,fun h=>by simp [pts] at h ⊢; omega⟩)))
 |l::ls,n,k,p,out,hn,hd,hk,hp,h0,h1=>by
  obtain⟨n,rfl⟩: ∃j,n=j+1:=⟨n-1,by omega⟩
  obtain⟨d1,d2,d3⟩:=u7 hd;obtain⟨s1,s2⟩:=hf.2 k l d1;have hpl:=hp.1;have hf1:=hf.1;have hk3:k≤3:=by omega
  simp only [List.length_cons] at hn;unfold s_l2Points;rw [decide_eq_false (show¬(p.length:Int)=(nest.length:Int) by omega)];refine bT (aA (x:=l) (by rw [hpl];exact aM d1) (aA (M8 (by omega) s1 s2 hp) ?_));let f:Int→Int:=fun v=>wk ls (p++[v]);have hfp: ∀v,1≤f v:=fun v=>aAW _ _;have hW:wk (l::ls) p=1+((jZ (kM l p) (qR l p)).map f).sum:=rfl;let g:Int→List (List Int):=fun v=>pts ls (p++[v]);have hP:pts (l::ls) p=(jZ (kM l p) (qR l p)).flatMap g:=rfl;have hlen:kM l p≤qR l p→qR l p-kM l p≤1199:=fun hle=>by
   have:=m4 f (jZ (kM l p) (qR l p)) fun y _=>hfp y
   have:=aJZ hle;omega
  refine Ev.loop (fun x:List (List Int)×Int=>kM l p≤x.2∧(x.2≤qR l p∨x.2=kM l p)∧(out.length+((jZ (kM l p) x.2).flatMap g).length≤120→x.1=out++(jZ (kM l p) x.2).flatMap g)∧(120<out.length+((jZ (kM l p) x.2).flatMap g).length→120<x.1.length))
   (fun x=>(qR l p-x.2).toNat) ?_ n _ ⟨zV _,.inr rfl,fun _=>by rw [gQ (zV _)];simp,fun h=>by rw [gQ (zV _)] at h;simp at h;omega⟩ (by dsimp only;omega)
  rintro again ⟨x,v⟩ ⟨i1,i2,i3,i4⟩ hr;dsimp only at i1 i2 i3 i4⊢;refine Ev.jn (fun z=>z=decide (v<qR l p∧x.length≤120)) (fun j hj=>aH (fun h=>hj _ ?_) fun h=>hj _ ?_) fun z hz=>?_
  ·by_cases hx:x.length≤120
   ·rw [decide_eq_true (show(x.length:Int)≤120 by omega),decide_eq_true ⟨h,hx⟩]
   rw [decide_eq_false (show¬(x.length:Int)≤120 by omega),decide_eq_false fun h=>hx h.2]
  ·rw [decide_eq_false fun h'=>h h'.1]
  subst hz;refine aH (fun⟨hv,hx⟩=>?_) fun hno=>Ev.some ?_
  ·have hxe:x=out++(jZ (kM l p) v).flatMap g:=i3 (by apply Nat.not_lt.1;intro h;have:=i4 h;omega);have hp':=J4 s1 s2 hp hk3 ⟨i1,hv⟩;have hwc:f v≤1200:=by
    rw [hW,uM i1 hv,sY,List.sum_append,List.map_cons,List.sum_cons] at h0
    have:=m4 f (jZ (v+1) (qR l p)) fun y _=>hfp y
    have:=m4 f (jZ (kM l p) v) fun y _=>hfp y;omega
   refine aA (fB p (by omega)) (aA (bI (by simp;omega)) (aI (tD hf ls n (k+1) (p++[v]) x (by omega) d2 (by omega) hp' hwc hx) fun r ⟨r1,r2⟩=>?_));have hvr: -1000000000≤v∧v≤1000000000:=by
    have h9:=hp'.2.2 v (by simp);have h8:=O4 hp'.2.1;simp only [yN] at h9;omega
   rw [aK (n:=v+1) (by omega)];have hs:(jZ (kM l p) (v+1)).flatMap g=(jZ (kM l p) v).flatMap g++g v:=by rw [nB i1,vAW];simp
   refine hr _ ⟨by dsimp only;omega,.inl (by dsimp only;omega),?_,?_⟩ (by dsimp only;omega)
   ·dsimp only;rw [hs];intro h;simp only [List.length_append] at h;have hl:x.length=out.length+((jZ (kM l p) v).flatMap g).length:=by rw [hxe,iX]
    rw [r1 (show x.length+(g v).length≤120 by omega),hxe,Y6]
   dsimp only;rw [hs];intro h;simp only [List.length_append] at h;have hl:x.length=out.length+((jZ (kM l p) v).flatMap g).length:=by rw [hxe,iX]
   exact r2 (show 120<x.length+(g v).length by omega)
  have hmono:((jZ (kM l p) v).flatMap g).length≤(pts (l::ls) p).length∧(qR l p≤v→(jZ (kM l p) v).flatMap g=pts (l::ls) p):=by
   rw [hP];by_cases h:v<qR l p
   ·refine⟨?_,fun h'=>by omega⟩;rw [uM i1 h,vAW,iX];omega
   have:jZ (kM l p) v=jZ (kM l p) (qR l p):=by
    rcases i2 with h2|h2
    ·rw [show v=qR l p by omega]
    subst h2;rw [gQ (zV _),gQ (by omega)]
   rw [this];exact⟨iB _,fun _=>rfl⟩
  refine⟨fun h=>?_,fun h=>?_⟩
  ·have hx:=i3 (by omega);rw [hx,hmono.2];apply Int.not_lt.1;intro hv;exact hno ⟨hv,by rw [hx,iX];omega⟩
  apply Nat.not_le.1;intro hx;have hv:qR l p≤v:=by apply Int.not_lt.1;intro hv;exact hno ⟨hv,hx⟩
  have:=i4 (by rw [hmono.2 hv];exact h);omega
theorem aAu{nest:List Loop}(hf:Fit nest): ∀(ls:List Loop) (n k:Nat) (p:List Int) (st:Int) (out:List (List Int)),5000+ls.length≤n→nest.drop k=ls→k≤nest.length→nZ k p→0≤st→st≤1199→out.length≤120→
  Ev (i_walking_walk n ⟨nest,st,out⟩ p) (fun r=>(st+wk ls p≤1200∧out.length+(pts ls p).length≤120→r=(true,⟨nest,st+wk ls p-1,out++pts ls p⟩))∧(¬(st+wk ls p≤1200∧out.length+(pts ls p).length≤120)→r.1=false))
 | [],n,k,p,st,out,hn,hd,hk,hp,h0,h1,h2=>by
  obtain⟨n,rfl⟩: ∃j,n=j+1:=⟨n-1,by omega⟩
  have hk':=yX hd hk;have hpl:=hp.1;have hf1:=hf.1;unfold i_walking_walk;dsimp only;rw [decide_eq_true (show(p.length:Int)=(nest.length:Int) by omega)];have hc:m_ownClone p=some p:=by unfold m_ownClone;rw [if_pos (by omega)]
  refine bY (aA hc (aA (bI (by simp;omega)) (Ev.some ⟨fun h=>?_,fun h=>?_⟩)))
  ·simp only [wk,pts,List.length_singleton] at h⊢;rw [decide_eq_true (by simp;omega),show st+1-1=st by omega]
  simp only [wk,pts,List.length_singleton] at h⊢;exact decide_eq_false (by simp;omega)
 |l::ls,n,k,p,st,out,hn,hd,hk,hp,h0,h1,h2=>by
  obtain⟨n,rfl⟩: ∃j,n=j+1:=⟨n-1,by omega⟩
  obtain⟨d1,d2,d3⟩:=u7 hd;obtain⟨s1,s2⟩:=hf.2 k l d1;have hpl:=hp.1;have hf1:=hf.1;have hk3:k≤3:=by omega
  simp only [List.length_cons] at hn;unfold i_walking_walk;dsimp only;rw [decide_eq_false (show¬(p.length:Int)=(nest.length:Int) by omega)];refine bT (aA (x:=l) (by rw [hpl];exact aM d1) (aA (aGx (by omega) s1 s2 hp) ?_));let f:Int→Int:=fun v=>wk ls (p++[v]);have hfp: ∀v,1≤f v:=fun v=>aAW _ _;have hW:wk (l::ls) p=1+((jZ (kM l p) (qR l p)).map f).sum:=rfl;let g:Int→List (List Int):=fun v=>pts ls (p++[v]);have hP:pts (l::ls) p=(jZ (kM l p) (qR l p)).flatMap g:=rfl;refine Ev.loop (fun x:List Loop×Int×List (List Int)×Int=>x.1=nest∧kM l p≤x.2.2.2∧(x.2.2.2≤qR l p∨x.2.2.2=kM l p)∧x.2.1=st+((jZ (kM l p) x.2.2.2).map f).sum∧x.2.2.1=out++(jZ (kM l p) x.2.2.2).flatMap g∧0≤x.2.1∧x.2.1≤1199∧x.2.2.1.length≤120)
   (fun x=>(1200-x.2.1).toNat) ?_ n _ ⟨rfl,zV _,.inr rfl,by dsimp only;rw [gQ (zV _)];simp,by dsimp only;rw [gQ (zV _)];simp,h0,h1,h2⟩ (by dsimp only;omega)
  rintro again ⟨nst,x,o,v⟩ ⟨i0,i1,i2,i3,i4,i5,i6,i7⟩ hr;dsimp only at i0 i1 i2 i3 i4 i5 i6 i7⊢;subst i0;have hol:o.length=out.length+((jZ (kM l p) v).flatMap g).length:=by rw [i4,iX]
  refine aH (fun hv=>?_) fun hv=>Ev.some ?_
  ·have hp':=J4 s1 s2 hp hk3 ⟨i1,hv⟩;have hrest:wk (l::ls) p≥1+((jZ (kM l p) v).map f).sum+f v∧(pts (l::ls) p).length≥((jZ (kM l p) v).flatMap g).length+(g v).length:=by
    rw [hW,hP,uM i1 hv,sY,List.sum_append,List.map_cons,List.sum_cons,vAW,iX,vBW,iX]
    have:=m4 f (jZ (v+1) (qR l p)) fun y _=>hfp y;constructor
    ·omega
    omega
   have hvr: -1000000000≤v∧v≤1000000000:=by
    have h9:=hp'.2.2 v (by simp);have h8:=O4 hp'.2.1;simp only [yN] at h9;omega
   have e1:wr (x+1)=x+1:=by rw [aK (by omega)]
   have e2:wr (x+1+1)=x+1+1:=by rw [aK (by omega)]
   have e3:wr (v+1)=v+1:=by rw [aK (by omega)]
   rw [e1,e2,e3];refine Ev.jn (fun z:List Loop×Int×List (List Int)×Bool=>(z.2.2.2=false→z.1=nst∧x+f v≤1199∧o.length+(g v).length≤120∧z.2.1=x+f v∧z.2.2.1=o++g v)∧(z.2.2.2=true→ ¬(st+wk (l::ls) p≤1200∧out.length+(pts (l::ls) p).length≤120)))
    (fun j hj=>aH (fun h=>hj _ ⟨fun h'=>(by cases h'),fun _=>?_⟩) fun h=>?_) fun z hz=>?_
   ·have:=hfp v;omega
   ·have hc:m_ownClone p=some p:=by unfold m_ownClone;rw [if_pos (by omega)]
    refine aA hc (aA (bI (by simp;omega)) (aI (aAu hf ls n (k+1) (p++[v]) (x+1) o (by omega) d2 (by omega) hp' (by omega) (by omega) i7) fun r ⟨r1,r2⟩=>?_));by_cases hc:x+1+f v≤1200∧o.length+(g v).length≤120
    ·rw [r1 hc];exact hj _ ⟨fun _=>⟨rfl,by omega,hc.2,show x+1+f v-1=x+f v by omega,rfl⟩,fun h=>(by cases h)⟩
    have hr1:=r2 hc;obtain⟨rb,⟨rn,rs,ro⟩⟩:=r;dsimp only at hr1⊢;subst hr1;exact hj _ ⟨fun h=>(by cases h),fun _=>by omega⟩
   obtain⟨za,zb,zc,zd⟩:=z;obtain⟨z2,z3⟩:=hz;dsimp only at z2 z3⊢;cases zd with
   |true=>exact Ev.some ⟨fun h=>absurd h (z3 rfl),fun _=>rfl⟩
   |false=>
    obtain⟨rfl,y1,y2,y3,y4⟩:=z2 rfl;refine hr _ ⟨rfl,by dsimp only;omega,.inl (by dsimp only;omega),?_,?_,by dsimp only;have:=hfp v;omega,by dsimp only;omega,?_⟩ (by dsimp only;have:=hfp v;omega)
    ·dsimp only;rw [nB i1,aCh,y3,i3];omega
    ·dsimp only;rw [y4,i4,nB i1,vAW];simp
    dsimp only;rw [y4,iX];exact y2
  have:jZ (kM l p) v=jZ (kM l p) (qR l p):=by
   rcases i2 with h2|h2
   ·rw [show v=qR l p by omega]
   subst h2;rw [gQ (zV _),gQ (by omega)]
  rw [this] at i3 i4 hol;rw [←hP] at i4 hol;refine⟨fun h=>?_,fun h=>?_⟩
  ·rw [i4,i3,hW,show st+(1+((jZ (kM l p) (qR l p)).map f).sum)-1=st+((jZ (kM l p) (qR l p)).map f).sum by omega]
  exact absurd ⟨by omega,by omega⟩ h
def NP(nest:List Loop):Option (List (List Int)):=if jN nest=true∧wk nest []≤1200∧(pts nest []).length≤120 then some (pts nest []) else none
def aEB:Option (List (List Int))→List (List Int)×Bool
 |none=>([],false)
 |some l=>(l,true)
theorem pt0:nZ 0 []:=⟨rfl,by omega,fun x h=>by cases h⟩
theorem H7{n:Nat}(hn:6000≤n){nest:List Loop}(h:SmN nest):l7 n nest=some (aEB (NP nest)):=by
 refine Ev.eq ?_;unfold l7;refine aA (R3 (by omega) h) ?_;unfold NP;cases hv:jN nest with
 |false=>exact Ev.some (by simp [aEB])
 |true=>
  have hf:=aBt hv;refine aI (aAu hf nest n 0 [] 0 [] (by have:=hf.1;omega) rfl (by omega) pt0 (by omega) (by omega) (by simp)) fun r ⟨r1,r2⟩=>?_;by_cases hc:(0:Int)+wk nest []≤1200∧([]:List (List Int)).length+(pts nest []).length≤120
  ·rw [r1 hc,if_pos ⟨rfl,by omega,by simpa using hc.2⟩];exact Ev.some (by simp [aEB])
  rw [r2 hc,if_neg fun h=>hc ⟨by omega,by simpa using h.2.2⟩];exact Ev.some rfl
theorem H0{n:Nat}(hn:6000≤n){nest:List Loop}(h:SmN nest):lY n nest=some (aEB (NP nest)):=by
 refine Ev.eq ?_;unfold lY;refine Ev.jn (fun z=>z= !(jN nest&&decide (wk nest []≤1200))) (fun j hj=>aA (N7 (by omega) h) ?_) fun z hz=>?_
 ·cases hv:jN nest with
  |false=>exact hj _ (by rw [hv];rfl)
  |true=>
   have hf:=aBt hv;refine aI (Z0 hf nest n 0 [] 1200 (by have:=hf.1;omega) rfl (by omega) pt0 (by omega) (by omega)) fun r ⟨r1,r2,r3,r4⟩=>hj _ ?_;rw [hv,W0];by_cases hw:wk nest []≤1200
   ·rw [decide_eq_true hw,decide_eq_false (by rw [r1 hw];omega)];rfl
   rw [decide_eq_false hw,decide_eq_true (r2 (by omega))];rfl
 subst hz;unfold NP;cases hv:jN nest with
 |false=>exact Ev.some (by simp [aEB])
 |true=>
  have hf:=aBt hv;by_cases hw:wk nest []≤1200
  ·rw [decide_eq_true hw];refine aI (tD hf nest n 0 [] [] (by have:=hf.1;omega) rfl (by omega) pt0 hw (by simp)) fun r ⟨r1,r2⟩=>?_;by_cases hl:(pts nest []).length≤120
   ·rw [r1 (by simpa using hl),if_pos ⟨rfl,hw,hl⟩];refine aH (fun h=>absurd h (by simp;omega)) fun _=>Ev.some (by simp [aEB])
   have:=r2 (by simp;omega);rw [if_neg fun h=>hl h.2.2];exact aH (fun _=>Ev.some rfl) fun h=>absurd h (by omega)
  rw [decide_eq_false hw,if_neg fun h=>hw h.2.1];exact Ev.some rfl
def nC(s:List UInt8):Bool:=match s with
 | [b]=>decide (65≤b.toNat∧b.toNat≤68)
 |_=>false
theorem wP{s:List UInt8}(h:s.length≠1):nC s=false:=by
 match s,h with
 | [],_=>rfl
 | [b],h=>exact absurd rfl h
 |_::_::_,_=>rfl
theorem aL7{s:List UInt8}(h:s.length=1): ∃b,s=[b]:=by
 match s,h with
 | [b],_=>exact⟨b,rfl⟩
theorem aHo(b:UInt8)(k:Nat)(hk:k<256):(b=UInt8.ofNat k)↔b.toNat=k:=by
 constructor
 ·intro h;rw [h];simp;omega
 intro h;rw [←h];simp
theorem X6(b:UInt8):Lib.contains [65,66,67,68] [b]=decide (65≤b.toNat∧b.toNat≤68):=by
 have e1:(b=65)↔b.toNat=65:=aHo b 65 (by omega);have e2:(b=66)↔b.toNat=66:=aHo b 66 (by omega);have e3:(b=67)↔b.toNat=67:=aHo b 67 (by omega);have e4:(b=68)↔b.toNat=68:=aHo b 68 (by omega);by_cases h1:b=65
 ·subst h1;decide
 by_cases h2:b=66
 ·subst h2;decide
 by_cases h3:b=67
 ·subst h3;decide
 by_cases h4:b=68
 ·subst h4;decide
 rw [e1] at h1;rw [e2] at h2;rw [e3] at h3;rw [e4] at h4;rw [decide_eq_false (by omega)];rw [←e1] at h1;rw [←e2] at h2;rw [←e3] at h3;rw [←e4] at h4;simp [Lib.contains,Lib.index,h1,h2,h3,h4]
theorem yQ(n:Nat)(s:List UInt8):qC n s=some (nC s):=by
 unfold qC;by_cases h:s.length=1
 ·obtain⟨b,rfl⟩:=aL7 h;simp only [jn,m_contains];rw [if_pos (by simp),X6];rfl
 rw [decide_eq_false (show¬(s.length:Int)=1 by omega),wP h];rfl
theorem P6(b:UInt8):Op.bytesLess [b] [65]=decide (b.toNat<65):=by simp [Op.bytesLess,UInt8.lt_iff_toNat_lt]
theorem P5(b:UInt8):(Op.bytesLess [b] [68]||[b]==[68])=decide (b.toNat≤68):=by
 have e:(b=68)↔b.toNat=68:=aHo b 68 (by omega);by_cases h:b=68
 ·subst h;decide
 have h':b.toNat≠68:=fun e'=>h (e.2 e')
 have:([b]==[(68:UInt8)])=false:=by simp [h]
 rw [this,Bool.or_false];simp only [Op.bytesLess,Bool.and_false,Bool.or_false,UInt8.lt_iff_toNat_lt];apply decide_eq_decide.2;show b.toNat<68↔_;omega
def jE(a:Access)(d:Int):Bool:=a.subs.all (fun x=>b6 x d)&&(nC a.array&&decide (1≤a.subs.length∧a.subs.length≤2))
theorem aGC{n:Nat}(hn:5000≤n){a:Affine}(ha:SmA a)(d:Int):jS n a d=some (!b6 a d):=R0 hn ha d
theorem vX{n:Nat}(hn:5000≤n){a:Access}(ha:I4 a.subs)(d:Int):nI n a d=some (jE a d):=by
 obtain⟨h0,h1⟩:=ha;unfold nI;rw [yQ,rD];have hc:=sI (n:=n) (f:=fun q0=>jS n q0 d) (p:=fun a=> !b6 a d) (l:=a.subs) (fun x hx=>aGC hn (h1 x hx) d) (by omega) (by omega);simp only [jn,Option.bind];rw [hc];unfold jE;have e:(a.subs.any fun a=> !b6 a d)= !(a.subs.all fun a=>b6 a d):=by
  rw [vAV];simp
 rw [e];cases nC a.array<;>cases decide (1≤a.subs.length∧a.subs.length≤2)<;>simp
theorem vT{n:Nat}(hn:5000≤n){a:Access}(ha:I4 a.subs)(d:Int):m7 n a d=some (jE a d):=by
 obtain⟨h0,h1⟩:=ha;refine Ev.eq ?_;unfold m7;refine mK (l:=a.subs) (p:=fun _ a=>b6 a d) (by omega) (by omega) (fun again i x hx hgo hno=>?_) (fun again hall=>?_) (fun⟨i,x,hx,hp⟩=>?_)
 ·have hi:=(cL.1 hx).1;have hm:=h1 x (cF hx);rw [decide_eq_true (show(i:Int)<(a.subs.length:Int) by omega)];refine bY (Ev.jn (fun z=>z= !b6 x d) (fun j hj=>aA (aM hx) (aA (kJ hn x hm) ?_)) fun z hz=>?_)
  ·cases ha:fC x with
   |false=>exact hj _ (by unfold b6;rw [ha];rfl)
   |true=>exact aA (wJ hn hm) (hj _ (by unfold b6;rw [ha,ltd];simp))
  subst hz;cases hb:b6 x d with
  |true=>show Ev (again _) _;rw [aK (by omega)];exact hgo hb
  |false=>exact Ev.some (hno hb)
 ·rw [decide_eq_false (show¬(a.subs.length:Int)<(a.subs.length:Int) by omega)];have e:a.subs.all (fun a=>b6 a d)=true:=vAE.2 fun c hc=>by obtain⟨i,hi⟩:=vAH hc;exact hall i c hi
  unfold jE;rw [e,W0];refine bT (Ev.jn (fun z=>z=(nC a.array&&decide (1≤a.subs.length∧a.subs.length≤2))) (fun j hj=>?_) fun z hz=>Ev.some hz);by_cases h:a.array.length=1
  ·rw [decide_eq_true (show(a.array.length:Int)=1 by omega)];obtain⟨b,hb⟩:=aL7 h;rw [hb] at hj⊢;rw [P6,P5];show Ev (bif _ then _ else _) _;simp only [nC] at hj⊢;by_cases g1:b.toNat<65
   ·rw [decide_eq_true g1];exact hj _ (by rw [decide_eq_false (show¬(65≤b.toNat∧b.toNat≤68) by omega)];rfl)
   rw [decide_eq_false g1];by_cases g2:b.toNat≤68
   ·rw [decide_eq_true g2];rw [decide_eq_true (show 65≤b.toNat∧b.toNat≤68 by omega)] at hj⊢;refine aH (fun h=>hj _ ?_) fun h=>hj _ ?_
    ·by_cases h2:a.subs.length≤2
     ·rw [decide_eq_true (show(a.subs.length:Int)≤2 by omega),decide_eq_true (by omega)];rfl
     rw [decide_eq_false (show¬(a.subs.length:Int)≤2 by omega),decide_eq_false (by omega)];rfl
    rw [decide_eq_false (by omega)];rfl
   rw [decide_eq_false g2];exact hj _ (by rw [decide_eq_false (show¬(65≤b.toNat∧b.toNat≤68) by omega)];rfl)
  rw [decide_eq_false (show¬(a.array.length:Int)=1 by omega)];exact hj _ (by rw [wP h];rfl)
 unfold jE;rw [vAL.2 ⟨x,cF hx,by rw [hp];simp⟩];rfl
def lG(a:Affine):Bool:=decide (a.coefs.length=0)&&decide (a.const=0)
def sG(a:Access):Bool:=decide (a.array=[])&&decide (a.subs.length=0)
theorem aKf(k:Nat):decide ((k:Int)=0)=decide (k=0):=decide_eq_decide.2 (by omega)
theorem X0(n:Nat)(a:Affine):nE n a=some (lG a):=by unfold nE lG;rw [aKf];cases decide (a.coefs.length=0)<;>rfl
theorem aCl(n:Nat)(a:Affine):pS n a=some (lG a):=by unfold pS lG;rw [aKf];cases decide (a.coefs.length=0)<;>rfl
theorem X2(n:Nat)(a:Access):iV n a=some (sG a):=by unfold iV sG;rw [aKf];cases decide (a.array=[])<;>rfl
theorem aA5(n:Nat)(a:Access):mP n a=some (sG a):=by unfold mP sG;rw [aKf];cases decide (a.array=[])<;>rfl
def iF(e:Expr)(d:Int):Bool:=
 if e.kind=2 then decide (e.num=0)&&(sG e.read&&b6 e.index d)
 else if e.kind=3 then decide (e.num=0)&&(lG e.index&&jE e.read d)
 else if e.kind=1 then decide (0≤e.num∧e.num≤99)&&(lG e.index&&sG e.read)
 else decide (e.num=0)&&(lG e.index&&sG e.read)
def gB(k:Int):Int:=if k=1∨k=2∨k=3 then 0 else if k=4∨k=5∨k=6 then 2 else-1
theorem aCm(n:Nat)(k:Int):xP n k=some (gB k):=by
 unfold xP gB;by_cases h1:k=1
 ·subst h1;rfl
 by_cases h2:k=2
 ·subst h2;rfl
 by_cases h3:k=3
 ·subst h3;rfl
 by_cases h4:k=4
 ·subst h4;rfl
 by_cases h5:k=5
 ·subst h5;rfl
 by_cases h6:k=6
 ·subst h6;rfl
 simp [jn,h1,h2,h3,h4,h5,h6]
theorem aDY{n:Nat}(hn:5000≤n){e:Expr}(h1:SmA e.index)(h2:I4 e.read.subs)(d:Int):J2 n e d=some (iF e d):=by
 unfold J2 iF;rw [aA5,aCl,kJ hn _ h1,wJ hn h1,vT hn h2];by_cases k2:e.kind=2
 ·rw [if_pos k2,decide_eq_true k2];simp only [jn,Option.bind,cond_true,b6];cases decide (e.num=0)<;>cases sG e.read<;>cases fC e.index<;>simp
 rw [if_neg k2,decide_eq_false k2];by_cases k3:e.kind=3
 ·rw [if_pos k3,decide_eq_true k3];simp only [jn,Option.bind,cond_true,cond_false];cases decide (e.num=0)<;>cases lG e.index<;>simp
 rw [if_neg k3,decide_eq_false k3];by_cases k1:e.kind=1
 ·rw [if_pos k1,decide_eq_true k1];simp only [jn,Option.bind,cond_true,cond_false];by_cases g1:0≤e.num<;>by_cases g2:e.num≤99<;>cases lG e.index<;>simp [g1,g2]
 rw [if_neg k1,decide_eq_false k1];simp only [jn,Option.bind,cond_false];cases decide (e.num=0)<;>cases lG e.index<;>simp
end Go.Lift
