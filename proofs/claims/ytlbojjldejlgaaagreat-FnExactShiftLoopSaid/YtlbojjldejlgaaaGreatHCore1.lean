/- Plain facts on sums of products, on ranges, on the points of a nest. -/
import Derived.Test.YtlbojjldejlgaaaGreatHLawDraw
set_option maxRecDepth 110000000
set_option linter.unusedVariables false
namespace Go.Lift
open Go
def dot:List Int→List Int→Int
 |c::cs,x::xs=>c*x+dot cs xs
 |_,_=>0
def oH(m:Int)(x:Int):Prop:= -m≤x∧x≤m
theorem aEy{a b c x:Int}(ha:0≤a)(hb:0≤b)(h1:oH a c)(h2:oH b x):oH (a*b) (c*x):=by
 obtain⟨p1,p2⟩:=h1;obtain⟨q1,q2⟩:=h2;constructor
 ·have h:=vBn (show 0≤a+c by omega) (show 0≤b+x by omega);have k:=vBn (show 0≤a-c by omega) (show 0≤b-x by omega);have e1:(a+c)*(b+x)=a*b+a*x+c*b+c*x:=by rw [Int.add_mul,Int.mul_add,Int.mul_add];omega
  have e2:(a-c)*(b-x)=a*b-a*x-c*b+c*x:=by rw [Int.sub_mul,Int.mul_sub,Int.mul_sub];omega
  rw [e1] at h;rw [e2] at k;omega
 have h:=vBn (show 0≤a+c by omega) (show 0≤b-x by omega);have k:=vBn (show 0≤a-c by omega) (show 0≤b+x by omega);have e1:(a+c)*(b-x)=a*b-a*x+c*b-c*x:=by rw [Int.add_mul,Int.mul_sub,Int.mul_sub];omega
 have e2:(a-c)*(b+x)=a*b+a*x-c*b-c*x:=by rw [Int.sub_mul,Int.mul_add,Int.mul_add];omega
 rw [e1] at h;rw [e2] at k;omega
theorem aAw(cs:List Int):dot cs []=0:=by cases cs<;>rfl
theorem aBO: ∀{cs xs:List Int} {c x:Int},cs[xs.length]? =some c→dot cs (xs++[x])=dot cs xs+c*x
 | [],xs,c,x,h=>by simp at h
 |d::cs,[],c,x,h=>by simp at h;subst h;simp [dot,aAw]
 |d::cs,y::xs,c,x,h=>by
  have h:cs[xs.length]? =some c:=by simpa using h
  simp only [List.cons_append,dot];rw [aBO h];omega
theorem aBN{cs xs:List Int}{i:Nat}{c x:Int}(hc:cs[i]? =some c)(hx:xs[i]? =some x):dot cs (xs.take (i+1))=dot cs (xs.take i)+c*x:=by have hi:=(b7.1 hx).1;rw [E1,hx];exact aBO (by simpa [Nat.min_eq_left (Nat.le_of_lt hi)] using hc)
theorem aHW{M:Int}(hM:0≤M): ∀{cs xs:List Int},(∀c∈cs,oH 9 c)→(∀x∈xs,oH M x)→oH (9*M*xs.length) (dot cs xs)
 | [],xs,_,_=>by
  have:0≤9*M*(xs.length:Int):=vBn (by omega) (by omega);simp only [dot,oH];omega
 |d::cs,[],_,_=>by simp [dot,oH]
 |d::cs,y::xs,hc,hx=>by
  have h1:=aHW hM (cs:=cs) (xs:=xs) (fun c h=>hc c (by simp [h])) fun x h=>hx x (by simp [h]);have h2:=aEy (by omega) hM (hc d (by simp)) (hx y (by simp));have e:9*M*((y::xs).length:Int)=9*M*(xs.length:Int)+9*M:=by simp [Int.mul_add]
  rw [e];simp only [dot,oH] at*;omega
def kG(lo hi:Int):List Int:=(List.range (hi-lo).toNat).map (fun(i:Nat)=>lo+(i:Int))
theorem aI5{lo hi v:Int}:v∈kG lo hi↔lo≤v∧v<hi:=by
 simp only [kG,List.mem_map,List.mem_range];constructor
 ·rintro⟨i,hi,rfl⟩;omega
 intro h;exact⟨(v-lo).toNat,by omega,by omega⟩
theorem hJ{lo hi:Int}(h:hi≤lo):kG lo hi=[]:=by unfold kG;rw [show(hi-lo).toNat=0 by omega];rfl
theorem m0{lo hi:Int}(h:lo≤hi):kG lo (hi+1)=kG lo hi++[hi]:=by unfold kG;rw [show(hi+1-lo).toNat=(hi-lo).toNat+1 by omega,List.range_succ,vAT];simp;omega
theorem tE{lo v hi:Int}(h1:lo≤v)(h2:v<hi):kG lo hi=kG lo v++v::kG (v+1) hi:=by
 obtain⟨k,hk⟩: ∃k:Nat,hi=v+1+k:=⟨(hi-v-1).toNat,by omega⟩
 subst hk;clear h2;induction k with
 |zero=>
  rw [show v+1+((0:Nat):Int)=v+1 by omega,m0 h1,hJ (S6 _)]
 |succ k ih=>
  rw [show v+1+((k+1:Nat):Int)=v+1+(k:Int)+1 by omega,m0 (by omega),ih,m0 (by omega)];simp
theorem D3{α:Type}{f:α→Option Bool}{p:α→Bool}{l:List α}(hf: ∀x∈l,f x=some (p x)){n:Nat}(hl:l.length<n)(hl2:l.length≤500000000):
  ∃r:Int,aM (fun again2 (x1:Int)=>bif decide (x1<(l.length:Int)) then(Option.bind (ix l x1) fun x3=>Option.bind (f x3) fun x4=>bif x4 then(some x1) else(again2 (wr (x1+1)))) else(some (-1))) n 0=some r∧decide (0≤r)=l.any p:=by
 suffices h:Ev (aM (fun again2 (x1:Int)=>bif decide (x1<(l.length:Int)) then(Option.bind (ix l x1) fun x3=>Option.bind (f x3) fun x4=>bif x4 then(some x1) else(again2 (wr (x1+1)))) else(some (-1))) n 0) (fun r=>decide (0≤r)=l.any p) by exact h
 refine Ev.loop (fun x:Int=>0≤x∧x≤l.length∧(l.take x.toNat).any p=false) (fun x:Int=>l.length-x.toNat) ?_ n 0 ⟨by omega,by omega,by simp⟩ (by simp;omega);rintro again x ⟨h0,h1,h2⟩ hr;refine aK (fun hlt=>?_) fun hge=>?_
 ·obtain⟨y,hy,hy2⟩:=aBu h0 hlt;have hm:=dF hy2;refine aB hy (aB (hf y hm) (Ev.cond (fun ht=>Ev.some ?_) fun hfl=>?_))
  ·rw [show l.any p=true from vBs.2 ⟨y,hm,ht⟩];simp [h0]
  rw [aN (by omega)];refine hr _ ⟨by omega,by omega,?_⟩ (by omega);rw [show(x+1).toNat=x.toNat+1 by omega,E1,hy2];simp [h2,hfl]
 refine Ev.some ?_;have hx:x.toNat=l.length:=by omega
 rw [hx,yD] at h2;rw [h2];simp
theorem qM{f:Int→Option Bool}{p:Int→Bool}{l:List Int}(hf: ∀x∈l,f x=some (p x)){n:Nat}(hl:l.length<n)(hl2:l.length≤500000000):bR n l f=some (l.any p):=by obtain⟨r,h1,h2⟩:=D3 hf hl hl2;unfold bR lR;rw [h1,←h2];rfl
theorem qV{f:Affine→Option Bool}{p:Affine→Bool}{l:List Affine}(hf: ∀x∈l,f x=some (p x)){n:Nat}(hl:l.length<n)(hl2:l.length≤500000000):cU n l f=some (l.any p):=by obtain⟨r,h1,h2⟩:=D3 hf hl hl2;unfold cU iY;rw [h1,←h2];rfl
theorem P5{f:Stmt→Option Bool}{p:Stmt→Bool}{l:List Stmt}(hf: ∀x∈l,f x=some (p x)){n:Nat}(hl:l.length<n)(hl2:l.length≤500000000):eV n l f=some (l.any p):=by obtain⟨r,h1,h2⟩:=D3 hf hl hl2;unfold eV kJ;rw [h1,←h2];rfl
theorem B1{f:Access→Option Bool}{p:Access→Bool}{l:List Access}(hf: ∀x∈l,f x=some (p x)){n:Nat}(hl:l.length<n)(hl2:l.length≤500000000):d6 n l f=some (l.any p):=by obtain⟨r,h1,h2⟩:=D3 hf hl hl2;unfold d6 iZ;rw [h1,←h2];rfl
theorem mI{α:Type}{l:List α}{p:Nat→α→Bool}{Q:Bool→Prop}{body:(Int→Option Bool)→Int→Option Bool}{n:Nat}(hl:l.length<n)(hl2:l.length≤500000000)
  (hstep: ∀again (i:Nat) x,l[i]? =some x→(p i x=true→Ev (again ((i:Int)+1)) Q)→(p i x=false→Q false)→Ev (body again (i:Int)) Q)
  (hend: ∀again,(∀(i:Nat) x,l[i]? =some x→p i x=true)→Ev (body again (l.length:Int)) Q) (hbad:(∃(i:Nat) (x:α),l[i]? =some x∧p i x=false)→Q false):Ev (aM body n 0) Q:=by
 refine Ev.loop (fun x:Int=> ∃i:Nat,x=i∧i≤l.length∧ ∀(j:Nat) y,j<i→l[j]? =some y→p j y=true) (fun x:Int=>l.length-x.toNat) ?_ n 0 ⟨0,rfl,by omega,fun j y h=>by omega⟩ (by simp;omega);rintro again x ⟨i,rfl,hi,ha⟩ hr;by_cases hlt:i<l.length
 ·have hx:=dM hlt;refine hstep again i _ hx (fun hp=>hr _ ⟨i+1,by omega,by omega,fun j y hj hy=>?_⟩ (by omega)) fun hp=>hbad ⟨i,_,hx,hp⟩;by_cases hji:j=i
  ·subst hji;rw [hx] at hy;cases hy;exact hp
  exact ha j y (by omega) hy
 have hil:i=l.length:=by omega
 subst hil;exact hend again fun j y hy=>ha j y (b7.1 hy).1 hy
def bM(a:Affine):Bool:=decide (a.coefs.length=4)&&(decide (-99≤a.const∧a.const≤99)&&a.coefs.all fun c=>decide (-9≤c∧c≤9))
theorem jT{a:Affine}(h:bM a=true):a.coefs.length=4∧oH 99 a.const∧ ∀c∈a.coefs,oH 9 c:=by simp only [bM,Bool.and_eq_true,decide_eq_true_eq,List.all_eq_true] at h;exact⟨h.1,h.2.1,h.2.2⟩
theorem dQ(n:Nat)(x a b:Int):bY n x a b=some (decide (a≤x∧x≤b)):=by unfold bY;by_cases h1:a≤x<;>by_cases h2:x≤b<;>simp [jn,h1,h2]
theorem o8{n:Nat}(hn:5500000≤n)(a:Affine)(ha:a.coefs.length≤1100000):gB n a=some (bM a):=by
 have hf: ∀x∈a.coefs,fU n x=some (!decide (-9≤x∧x≤9)):=fun x _=>by unfold fU;rw [dQ];rfl
 have hc:=qM (n:=n) hf (by omega) (by omega);unfold gB yZ;rw [dQ];simp only [jn,Option.bind];rw [hc];unfold bM;have e:(a.coefs.any fun x=> !decide (-9≤x∧x≤9))= !(a.coefs.all fun c=>decide (-9≤c∧c≤9)):=by
  rw [vAX];simp
 rw [e];by_cases h1:a.coefs.length=4
 ·rw [decide_eq_true (show(a.coefs.length:Int)=4 by omega),decide_eq_true h1];generalize decide (-99≤a.const∧a.const≤99)=b;cases b<;>simp
 rw [decide_eq_false (show¬(a.coefs.length:Int)=4 by omega),decide_eq_false h1];rfl
theorem nO(n:Nat)(x m:Int)(hm:0≤m∧m≤1000000000):iW n x m=some (decide (-m≤x∧x≤m)):=by
 unfold iW;rw [aN (by omega)];by_cases h1: -m≤x<;>by_cases h2:x≤m
 ·simp [jn,h1,h2]
 ·simp [jn,h1,h2]
 ·simp [jn,h1,h2]
 simp [jn,h1,h2]
theorem kF{n:Nat}(hn:5500000≤n)(a:Affine)(ha:a.coefs.length≤1100000):f5 n a=some (bM a):=by
 refine Ev.eq ?_;unfold f5;refine mI (l:=a.coefs) (p:=fun _ c=>decide (-9≤c∧c≤9)) (by omega) (by omega) (fun again i x hx hgo hno=>?_) (fun again hall=>?_) (fun⟨i,x,hx,hp⟩=>?_)
 ·rw [decide_eq_true (show(i:Int)<(a.coefs.length:Int) by have:=(b7.1 hx).1;omega)];refine aB (aS hx) (aB (nO n x 9 (by omega)) ?_);have hi:=(b7.1 hx).1;cases hp:decide (-9≤x∧x≤9) with
  |true=>show Ev (again _) _;rw [aN (by omega)];exact hgo hp
  |false=>exact Ev.some (hno hp)
 ·rw [decide_eq_false (show¬(a.coefs.length:Int)<(a.coefs.length:Int) by omega)];have e:a.coefs.all (fun c=>decide (-9≤c∧c≤9))=true:=Y5.2 fun c hc=>by obtain⟨i,hi⟩:=vAB hc;exact hall i c hi
  refine Ev.cond (fun h=>(by cases h)) fun _=>?_;unfold bM;rw [e];refine Ev.jn (fun z:Bool=>z=(decide (a.coefs.length=4)&&(decide (-99≤a.const∧a.const≤99)&&true))) (fun j hj=>?_) fun z hz=>Ev.some hz;refine aK (fun h=>aB (nO n a.const 99 (by omega)) (hj _ ?_)) fun h=>hj _ ?_
  ·rw [decide_eq_true (show a.coefs.length=4 by omega)];simp
  rw [decide_eq_false (show¬a.coefs.length=4 by omega)];rfl
 unfold bM;have e:a.coefs.all (fun c=>decide (-9≤c∧c≤9))=false:=vAF.2 ⟨x,dF hx,by rw [hp];simp⟩;rw [e];simp
def fV(a:Affine)(p:List Int):Int:=a.const+dot a.coefs p
def ptB(M:Int)(p:List Int):Prop:= ∀x∈p,oH M x
theorem tM{a:Affine}(ha:bM a=true){p:List Int}(hp:p.length≤4){M:Int}(hM:0≤M∧M≤1000000000)(hB:ptB M p)(i:Nat)(hi:i≤p.length):oH 1000000000000 (a.const+dot a.coefs (p.take i)):=by
 obtain⟨h1,h2,h3⟩:=jT ha;have h4:=aHW (M:=M) hM.1 (cs:=a.coefs) (xs:=p.take i) h3 fun x hx=>hB x (vAz hx);have h5:(p.take i).length≤4:=by simp;omega
 have h6:9*M*((p.take i).length:Int)≤9*M*4:=Int.mul_le_mul_of_nonneg_left (by omega) (by omega);simp only [oH] at*;omega
theorem aFv{n:Nat}(hn:5500000≤n){a:Affine}(ha:bM a=true){p:List Int}(hp:p.length≤4){M:Int}(hM:0≤M∧M≤1000000000)(hB:ptB M p):cM n a p=some (fV a p):=by
 obtain⟨h1,h2,h3⟩:=jT ha;refine Ev.eq ?_;unfold cM;refine Ev.loop (fun x:Int×Int=> ∃i:Nat,x.2=i∧i≤p.length∧x.1=a.const+dot a.coefs (p.take i)) (fun x=>p.length-x.2.toNat) ?_ n _ ⟨0,rfl,by omega,by simp [aAw]⟩ (by simp;omega);rintro again ⟨x,k⟩ ⟨i,hk,hi,hx⟩ hr;dsimp only at hk hx⊢;subst hk;refine aK (fun hlt=>?_) fun hge=>Ev.some ?_
 ·have hlt:i<p.length:=by omega
  have hp2:=dM hlt;have hc2:=dM (show i<a.coefs.length by omega);have hd:=aBN hc2 hp2;have e1:=tM ha hp hM hB i hi;have e2:=tM ha hp hM hB (i+1) (by omega);rw [hd] at e2;have e3:=aEy (by omega) hM.1 (h3 _ (dF hc2)) (hB _ (dF hp2));refine aB (aS hp2) (aB (aS hc2) ?_);simp only [oH] at e1 e2 e3;rw [aN (n:=a.coefs[i]*p[i]) (by omega),aN (by omega),aN (by omega)];refine hr _ ⟨i+1,by dsimp only;omega,by omega,?_⟩ (by dsimp only;omega);dsimp only;rw [hd,hx];omega
 have:i=p.length:=by omega
 rw [hx,this,yD];rfl
theorem aFf{n:Nat}(hn:5500000≤n){a:Affine}(ha:bM a=true){p:List Int}(hp:p.length≤4){M:Int}(hM:0≤M∧M≤1000000000)(hB:ptB M p):iK n a p=some (fV a p):=by
 obtain⟨h1,h2,h3⟩:=jT ha;refine Ev.eq ?_;unfold iK;refine Ev.loop (fun x:Int×Int=> ∃i:Nat,x.2=i∧i≤p.length∧x.1=a.const+dot a.coefs (p.take i)) (fun x=>p.length-x.2.toNat) ?_ n _ ⟨0,rfl,by omega,by simp [aAw]⟩ (by simp;omega);rintro again ⟨x,k⟩ ⟨i,hk,hi,hx⟩ hr;dsimp only at hk hx⊢;subst hk;refine Ev.jn (fun z=>z=decide (i<p.length)) (fun j hj=>aK (fun h=>hj _ ?_) fun h=>hj _ ?_) fun z hz=>?_
 ·rw [decide_eq_true (show i<p.length by omega),decide_eq_true (show(i:Int)<(a.coefs.length:Int) by omega)]
 ·rw [decide_eq_false (show¬i<p.length by omega)]
 subst hz;refine aK (fun hlt=>?_) fun hge=>Ev.some ?_
 ·have hp2:=dM hlt;have hc2:=dM (show i<a.coefs.length by omega);have hd:=aBN hc2 hp2;have e1:=tM ha hp hM hB i hi;have e2:=tM ha hp hM hB (i+1) (by omega);rw [hd] at e2;have e3:=aEy (by omega) hM.1 (h3 _ (dF hc2)) (hB _ (dF hp2));refine aB (aS hc2) (aB (aS hp2) ?_);simp only [oH] at e1 e2 e3;rw [aN (n:=a.coefs[i]*p[i]) (by omega),aN (by omega),aN (by omega)];refine hr _ ⟨i+1,by dsimp only;omega,by omega,?_⟩ (by dsimp only;omega);dsimp only;rw [hd,hx];omega
 have:i=p.length:=by omega
 rw [hx,this,yD];rfl
theorem b8{R:Type}{Q:R→Prop}{A B:Option R}(h:Ev A Q):Ev (bif true then A else B) Q:=h
theorem bI{R:Type}{Q:R→Prop}{A B:Option R}(h:Ev B Q):Ev (bif false then A else B) Q:=h
def gT:List Int→Nat
 | []=>0
 |c::cs=>if gT cs=0 then(if c=0 then 0 else 1) else gT cs+1
theorem zZ: ∀(l:List Int) (c:Int),gT (l++[c])=if c=0 then gT l else l.length+1
 | [],c=>by simp [gT]
 |d::l,c=>by
  have ih:=zZ l c;simp only [List.cons_append,gT,ih];by_cases hc:c=0
  ·simp [hc]
  simp [hc]
theorem zY{l:List Int}{i:Nat}{c:Int}(h:l[i]? =some c):gT (l.take (i+1))=if c=0 then gT (l.take i) else i+1:=by have hi:=(b7.1 h).1;rw [E1,h];show gT (l.take i++[c])=_;rw [zZ,vP,Nat.min_eq_left (Nat.le_of_lt hi)]
def SmA(a:Affine):Prop:=a.coefs.length≤1100000
def zL(l:List Affine):Prop:=l.length≤1100000∧ ∀a∈l,SmA a
theorem uH{n:Nat}(hn:5500000≤n){a:Affine}(ha:SmA a):mM n a=some (gT a.coefs:Int):=by
 have ha:a.coefs.length≤1100000:=ha;refine Ev.eq ?_;unfold mM;refine Ev.loop (fun x:Int×Int=> ∃i:Nat,x.2=i∧i≤a.coefs.length∧x.1=(gT (a.coefs.take i):Int)) (fun x=>a.coefs.length-x.2.toNat) ?_ n _ ⟨0,rfl,by omega,by simp [gT]⟩ (by simp;omega);rintro again ⟨x,k⟩ ⟨i,hk,hi,hx⟩ hr;dsimp only at hk hx⊢;subst hk;refine aK (fun hlt=>?_) fun hge=>Ev.some ?_
 ·have hlt:i<a.coefs.length:=by omega
  have hc:=dM hlt;have hd:=zY hc;refine Ev.jn (fun z:Int=>z=(gT (a.coefs.take (i+1)):Int)) (fun j hj=>aB (aS hc) (bV (fun h0=>hj _ ?_) fun h0=>hj _ ?_)) fun z hz=>?_
  ·rw [hd,if_neg h0,aN (by omega)];omega
  ·rw [hd,if_pos h0,hx]
  rw [aN (by omega)];exact hr _ ⟨i+1,by dsimp only;omega,by omega,hz⟩ (by dsimp only;omega)
 have:i=a.coefs.length:=by omega
 rw [hx,this,yD]
theorem I8{n:Nat}(hn:5500000≤n){a:Affine}(ha:SmA a):fG n a=some (gT a.coefs:Int):=by
 have ha:a.coefs.length≤1100000:=ha;refine Ev.eq ?_;unfold fG;refine Ev.loop (fun x:Int=> ∃i:Nat,x=i∧i≤a.coefs.length∧gT a.coefs=gT (a.coefs.take i)) (fun x=>x.toNat) ?_ n _ ⟨a.coefs.length,rfl,by omega,by rw [yD]⟩ (by simp;omega);rintro again x ⟨i,rfl,hi,hx⟩ hr;cases i with
 |zero=>
  refine Ev.jn (fun z=>z=false) (fun j hj=>aK (fun h=>absurd h (by decide)) fun h=>hj _ rfl) fun z hz=>?_;subst hz;exact Ev.some (by rw [hx];rfl)
 |succ i=>
  have hlt:i<a.coefs.length:=by omega
  have hc:=dM hlt;have hd:=zY hc;have e:wr (((i+1:Nat):Int)-1)=(i:Int):=by rw [aN (by omega)];omega
  rw [e];refine Ev.jn (fun z=>z=decide (a.coefs[i]=0)) (fun j hj=>aK (fun h=>aB (aS hc) (hj _ rfl)) fun h=>absurd (show(0:Int)<((i+1:Nat):Int) by omega) h) fun z hz=>?_;subst hz;refine aK (fun h0=>?_) fun h0=>Ev.some ?_
  ·exact hr _ ⟨i,rfl,by omega,by rw [hx,hd,if_pos h0]⟩ (by omega)
  rw [hx,hd,if_neg h0]
def bP(a:Affine)(d:Int):Bool:=bM a&&decide ((gT a.coefs:Int)≤d)
def cA(l:List Affine)(d:Int):Bool:=l.all (fun a=>bP a d)&&decide (1≤l.length∧l.length≤2)
theorem ltd(a b:Int):decide (a<b)= !decide (b≤a):=by
 by_cases h:a<b
 ·rw [decide_eq_true h,decide_eq_false (by omega)];rfl
 rw [decide_eq_false h,decide_eq_true (by omega)];rfl
theorem zQ{n:Nat}(hn:5500000≤n){l:List Affine}(hl:zL l)(d:Int):rQ n l d=some (cA l d):=by
 obtain⟨h0,h1⟩:=hl;refine Ev.eq ?_;unfold rQ;refine mI (l:=l) (p:=fun _ a=>bP a d) (by omega) (by omega) (fun again i x hx hgo hno=>?_) (fun again hall=>?_) (fun⟨i,x,hx,hp⟩=>?_)
 ·have hi:=(b7.1 hx).1;have hm:=h1 x (dF hx);rw [decide_eq_true (show(i:Int)<(l.length:Int) by omega)];refine b8 (Ev.jn (fun z=>z= !bP x d) (fun j hj=>aB (aS hx) (aB (kF hn x hm) ?_)) fun z hz=>?_)
  ·cases ha:bM x with
   |false=>exact hj _ (by unfold bP;rw [ha];rfl)
   |true=>exact aB (uH hn hm) (hj _ (by unfold bP;rw [ha,ltd];simp))
  subst hz;cases hb:bP x d with
  |true=>show Ev (again _) _;rw [aN (by omega)];exact hgo hb
  |false=>exact Ev.some (hno hb)
 ·rw [decide_eq_false (show¬(l.length:Int)<(l.length:Int) by omega)];have e:l.all (fun a=>bP a d)=true:=Y5.2 fun c hc=>by obtain⟨i,hi⟩:=vAB hc;exact hall i c hi
  unfold cA;rw [e];refine bI (Ev.jn (fun z=>z=decide (1≤l.length∧l.length≤2)) (fun j hj=>aK (fun h=>hj _ ?_) fun h=>hj _ ?_) fun z hz=>Ev.some (by rw [hz];rfl))
  ·by_cases h2:l.length≤2
   ·rw [decide_eq_true (show(l.length:Int)≤2 by omega),decide_eq_true (by omega)]
   rw [decide_eq_false (show¬(l.length:Int)≤2 by omega),decide_eq_false (by omega)]
  rw [decide_eq_false (by omega)]
 unfold cA;rw [vAF.2 ⟨x,dF hx,by rw [hp];simp⟩];rfl
theorem I9{n:Nat}(hn:5500000≤n){a:Affine}(ha:SmA a)(d:Int):iD n a d=some (!bP a d):=by
 unfold iD;rw [o8 hn a ha];simp only [jn,Option.bind];cases hb:bM a with
 |false=>simp [bP,hb]
 |true=>
  rw [I8 hn ha];simp only [bP,hb,Bool.not_true,cond_false,Bool.true_and];rw [ltd]
theorem qE(n k:Nat):bY n (k:Int) 1 2=some (decide (1≤k∧k≤2)):=by
 rw [dQ];congr 1;by_cases h:1≤k∧k≤2
 ·rw [decide_eq_true h,decide_eq_true (by omega)]
 rw [decide_eq_false h,decide_eq_false (by omega)]
theorem tY{n:Nat}(hn:5500000≤n){l:List Affine}(hl:zL l)(d:Int):m6 n l d=some (cA l d):=by
 obtain⟨h0,h1⟩:=hl;unfold m6;rw [qE];have hc:=qV (n:=n) (f:=fun q0=>iD n q0 d) (p:=fun a=> !bP a d) (l:=l) (fun x hx=>I9 hn (h1 x hx) d) (by omega) (by omega);simp only [jn,Option.bind];rw [hc];unfold cA;have e:(l.any fun a=> !bP a d)= !(l.all fun a=>bP a d):=by
  rw [vAX];simp
 rw [e];cases decide (1≤l.length∧l.length≤2)<;>simp
def yY{α:Type}(p:Nat→α→Bool)(l:List α):Bool:=l.zipIdx.all fun q=>p q.2 q.1
theorem nV{α:Type}{p:Nat→α→Bool}{l:List α}(h: ∀(i:Nat) x,l[i]? =some x→p i x=true):yY p l=true:=
 Y5.2 fun q hq=>h q.2 q.1 (vBw.1 hq)
theorem l8{α:Type}{p:Nat→α→Bool}{l:List α}{i:Nat}{x:α}(h:l[i]? =some x)(hp:p i x=false):yY p l=false:=
 vAF.2 ⟨(x,i),vBw.2 h,by rw [hp];simp⟩
theorem uU{α:Type}{p:Nat→α→Bool}{l:List α}(h:yY p l=true){i:Nat}{x:α}(hx:l[i]? =some x):p i x=true:=
 Y5.1 h (x,i) (vBw.2 hx)
def jN(nest:List Loop):Bool:=yY (fun i l=>cA l.lo (i:Int)&&cA l.hi (i:Int)) nest&&decide (nest.length≤4)
def SmN(nest:List Loop):Prop:=nest.length≤1100000∧ ∀l∈nest,zL l.lo∧zL l.hi
theorem J1{n:Nat}(hn:5500000≤n){nest:List Loop}(h:SmN nest):nX n nest=some (jN nest):=by
 obtain⟨h0,h1⟩:=h;refine Ev.eq ?_;unfold nX;refine mI (l:=nest) (p:=fun i l=>cA l.lo (i:Int)&&cA l.hi (i:Int)) (by omega) (by omega) (fun again i x hx hgo hno=>?_) (fun again hall=>?_) (fun⟨i,x,hx,hp⟩=>?_)
 ·have hi:=(b7.1 hx).1;obtain⟨m1,m2⟩:=h1 x (dF hx);rw [decide_eq_true (show(i:Int)<(nest.length:Int) by omega)];refine aB (aS hx) (Ev.jn (fun z=>z= !(cA x.lo (i:Int)&&cA x.hi (i:Int))) (fun j hj=>aB (tY hn m1 _) ?_) fun z hz=>?_)
  ·cases ha:cA x.lo (i:Int) with
   |false=>exact hj _ (by rw [ha];rfl)
   |true=>exact aB (tY hn m2 _) (hj _ (by rw [ha];rfl))
  subst hz;cases hb:(cA x.lo (i:Int)&&cA x.hi (i:Int)) with
  |true=>show Ev (again _) _;rw [aN (by omega)];exact hgo hb
  |false=>exact Ev.some (hno hb)
 ·rw [decide_eq_false (show¬(nest.length:Int)<(nest.length:Int) by omega)];refine Ev.some ?_;unfold jN;rw [nV hall,vAU];exact decide_eq_decide.2 (by omega)
 unfold jN;rw [l8 hx hp];rfl
theorem G0{n:Nat}(hn:5500000≤n){nest:List Loop}(h:SmN nest):nQ n nest=some (jN nest):=by
 obtain⟨h0,h1⟩:=h;unfold nQ;by_cases h4:nest.length≤4
 ·rw [decide_eq_true (show(nest.length:Int)≤4 by omega)];refine Ev.eq ?_;refine mI (l:=nest) (p:=fun i l=>cA l.lo (i:Int)&&cA l.hi (i:Int)) (by omega) (by omega) (fun again i x hx hgo hno=>?_) (fun again hall=>?_) (fun⟨i,x,hx,hp⟩=>?_)
  ·have hi:=(b7.1 hx).1;obtain⟨m1,m2⟩:=h1 x (dF hx);rw [decide_eq_true (show(i:Int)<(nest.length:Int) by omega)];refine Ev.jn (fun z=>z=true) (fun j hj=>b8 (hj _ rfl)) fun z hz=>?_;subst hz;refine b8 (Ev.jn (fun z=>z= !(cA x.lo (i:Int)&&cA x.hi (i:Int))) (fun j hj=>aB (aS hx) (aB (zQ hn m1 _) ?_)) fun z hz=>?_)
   ·cases ha:cA x.lo (i:Int) with
    |false=>exact hj _ (by rw [ha];rfl)
    |true=>exact aB (zQ hn m2 _) (hj _ (by rw [ha];rfl))
   subst hz;cases hb:(cA x.lo (i:Int)&&cA x.hi (i:Int)) with
   |true=>show Ev (again _) _;rw [aN (by omega)];exact hgo hb
   |false=>exact Ev.some (hno hb)
  ·rw [decide_eq_false (show¬(nest.length:Int)<(nest.length:Int) by omega)];refine Ev.jn (fun z=>z=false) (fun j hj=>bI (hj _ rfl)) fun z hz=>?_;subst hz;refine Ev.some ?_;unfold jN;rw [nV hall,decide_eq_true h4];rfl
  unfold jN;rw [l8 hx hp];rfl
 obtain⟨k,rfl⟩: ∃k,n=k+1:=⟨n-1,by omega⟩
 rw [decide_eq_false (show¬(nest.length:Int)≤4 by omega)];unfold jN;rw [decide_eq_false h4,vBj];simp only [aM,jn];cases decide ((0:Int)<(nest.length:Int))<;>rfl
def mx:List Int→Int
 | []=>0
 |x::xs=>xs.foldl max x
def mn:List Int→Int
 | []=>0
 |x::xs=>xs.foldl min x
theorem aJd{l:List Int}(h:l≠[])(x:Int):mx (l++[x])=max (mx l) x:=by
 cases l with
 |nil=>exact absurd rfl h
 |cons a l=>simp [mx,List.foldl_append]
theorem aJf{l:List Int}(h:l≠[])(x:Int):mn (l++[x])=min (mn l) x:=by
 cases l with
 |nil=>exact absurd rfl h
 |cons a l=>simp [mn,List.foldl_append]
theorem aJT: ∀(l:List Int) (a:Int),a≤l.foldl max a
 | [],a=>S6 _
 |x::l,a=>Int.le_trans (Int.le_max_left a x) (aJT l (max a x))
theorem aJU: ∀(l:List Int) (a:Int),l.foldl min a≤a
 | [],a=>S6 _
 |x::l,a=>Int.le_trans (aJU l (min a x)) (Int.min_le_left a x)
def evs(l:List Affine)(p:List Int):List Int:=l.map fun a=>fV a p
def kI(l:Loop)(p:List Int):Int:=mx (evs l.lo p)
def pM(l:Loop)(p:List Int):Int:=mn (evs l.hi p)
def pL(k:Nat)(p:List Int):Prop:=p.length=k∧k≤4∧ptB (100*40^k) p
theorem G5{k:Nat}(h:k≤4):(0:Int)≤100*40^k∧(100:Int)*40^k≤1000000000:=by
 match k,h with
 |0,_=>decide
 |1,_=>decide
 |2,_=>decide
 |3,_=>decide
 |4,_=>decide
theorem rK{l:List Affine}{d:Int}(h:cA l d=true):1≤l.length∧l.length≤2∧ ∀a∈l,bM a=true:=by
 simp only [cA,Bool.and_eq_true,decide_eq_true_eq,List.all_eq_true] at h;refine⟨h.2.1,h.2.2,fun a ha=>?_⟩
 have:=h.1 a ha;simp only [bP,Bool.and_eq_true] at this;exact this.1
theorem aHn{a:Affine}(ha:bM a=true){k:Nat}{p:List Int}(hp:pL k p)(hk:k≤3): -(40*(100*40^k))≤fV a p∧fV a p≤40*(100*40^k):=by
 obtain⟨h1,h2,h3⟩:=jT ha;obtain⟨p1,p2,p3⟩:=hp;obtain⟨q1,q2⟩:=G5 (k:=k) (by omega);have hq:(100:Int)≤100*40^k:=by
  match k,hk with
  |0,_=>decide
  |1,_=>decide
  |2,_=>decide
  |3,_=>decide
 generalize (100*40^k:Int)=M at*;have h4:=aHW (M:=M) q1 (cs:=a.coefs) (xs:=p) h3 fun x hx=>p3 x hx;have h6:9*M*(p.length:Int)≤9*M*3:=Int.mul_le_mul_of_nonneg_left (by omega) (by omega);simp only [oH] at*;unfold fV;omega
theorem aGN{n:Nat}(hn:5500000≤n){a:Affine}(ha:bM a=true){k:Nat}{p:List Int}(hp:pL k p):iK n a p=some (fV a p):=
 aFf hn ha (by have:=hp.1;have:=hp.2.1;omega) (G5 hp.2.1) hp.2.2
theorem aHf{n:Nat}(hn:5500000≤n){a:Affine}(ha:bM a=true){k:Nat}{p:List Int}(hp:pL k p):cM n a p=some (fV a p):=
 aFv hn ha (by have:=hp.1;have:=hp.2.1;omega) (G5 hp.2.1) hp.2.2
theorem kY{l:List Affine}{p:List Int}{i:Nat}{a:Affine}(h:l[i]? =some a):(evs l p)[i]? =some (fV a p):=by unfold evs;rw [List.getElem?_map,h];rfl
theorem D0(l:List Affine)(p:List Int):(evs l p).length=l.length:=S7 ..
theorem aEm{α:Type}{l:List α}{i:Nat}(h:1≤i)(hl:1≤l.length):l.take i≠[]:=by
 intro e
 have:(l.take i).length=0:=by rw [e];rfl
 rw [vP] at this;omega
theorem aEx{l:List Int}{i:Nat}{x:Int}(h:l[i]? =some x)(hi:1≤i):mx (l.take (i+1))=max (mx (l.take i)) x:=by have:=(b7.1 h).1;rw [E1,h];exact aJd (aEm hi (by omega)) x
theorem aEB{l:List Int}{i:Nat}{x:Int}(h:l[i]? =some x)(hi:1≤i):mn (l.take (i+1))=min (mn (l.take i)) x:=by have:=(b7.1 h).1;rw [E1,h];exact aJf (aEm hi (by omega)) x
theorem aC9{l:List Int}{x:Int}(h:l[0]? =some x):mx (l.take 1)=x:=by
 cases l with
 |nil=>simp at h
 |cons a l=>simp at h;subst h;rfl
theorem aDa{l:List Int}{x:Int}(h:l[0]? =some x):mn (l.take 1)=x:=by
 cases l with
 |nil=>simp at h
 |cons a l=>simp at h;subst h;rfl
theorem F6{n:Nat}(hn:5500000≤n){l:Loop}{d d':Int}(h1:cA l.lo d=true)(h2:cA l.hi d'=true){k:Nat}{p:List Int}(hp:pL k p):oY n l p=some (kI l p,pM l p):=by
 obtain⟨a1,a2,a3⟩:=rK h1;obtain⟨b1,b2,b3⟩:=rK h2;have g1:=dM (show 0<l.lo.length by omega);have g2:=dM (show 0<l.hi.length by omega);refine Ev.eq ?_;unfold oY;refine aB (aS (i:=0) g1) (aB (aGN hn (a3 _ (dF g1)) hp) (aB (aS (i:=0) g2) (aB (aGN hn (b3 _ (dF g2)) hp) ?_)));refine Ev.loop (fun x:Int×Int=> ∃i:Nat,x.2=i∧1≤i∧i≤l.lo.length∧x.1=mx ((evs l.lo p).take i)) (fun x=>l.lo.length-x.2.toNat) ?_ n _ ⟨1,rfl,by omega,by omega,(aC9 (kY g1)).symm⟩ (by dsimp only;omega);rintro again ⟨x,z⟩ ⟨i,hz,hi1,hi,hx⟩ hr;dsimp only at hz hx⊢;subst hz;refine aK (fun hlt=>?_) fun hge=>?_
 ·have g:=dM (show i<l.lo.length by omega);have e:=aEx (kY (p:=p) g) hi1;refine Ev.jn (fun z=>z=mx ((evs l.lo p).take (i+1))) (fun j hj=>aB (aS g) (aB (aGN hn (a3 _ (dF g)) hp) (aK (fun h=>hj _ ?_) fun h=>hj _ ?_))) fun z hz=>?_
  ·rw [e,←hx];omega
  ·rw [e,←hx];omega
  rw [aN (by omega)];exact hr _ ⟨i+1,by dsimp only;omega,by omega,by omega,hz⟩ (by dsimp only;omega)
 have hie:i=l.lo.length:=by omega
 have hx':x=kI l p:=by rw [hx,hie,←D0 l.lo p,yD];rfl
 refine Ev.loop (fun x:Int×Int=> ∃i:Nat,x.2=i∧1≤i∧i≤l.hi.length∧x.1=mn ((evs l.hi p).take i)) (fun x=>l.hi.length-x.2.toNat) ?_ n _ ⟨1,rfl,by omega,by omega,(aDa (kY g2)).symm⟩ (by dsimp only;omega);rintro again2 ⟨y,z⟩ ⟨i,hz,hi1,hi,hy⟩ hr2;dsimp only at hz hy⊢;subst hz;refine aK (fun hlt=>?_) fun hge=>Ev.some ?_
 ·have g:=dM (show i<l.hi.length by omega);have e:=aEB (kY (p:=p) g) hi1;refine Ev.jn (fun z=>z=mn ((evs l.hi p).take (i+1))) (fun j hj=>aB (aS g) (aB (aGN hn (b3 _ (dF g)) hp) (aK (fun h=>hj _ ?_) fun h=>hj _ ?_))) fun z hz=>?_
  ·rw [e,←hy];omega
  ·rw [e,←hy];omega
  rw [aN (by omega)];exact hr2 _ ⟨i+1,by dsimp only;omega,by omega,by omega,hz⟩ (by dsimp only;omega)
 have hie:i=l.hi.length:=by omega
 rw [hx',hy,hie,←D0 l.hi p,yD];rfl
theorem aFt{n:Nat}(hn:5500000≤n){l:Loop}{d d':Int}(h1:cA l.lo d=true)(h2:cA l.hi d'=true){k:Nat}{p:List Int}(hp:pL k p):nY n l p=some (kI l p,pM l p):=by
 obtain⟨a1,a2,a3⟩:=rK h1;obtain⟨b1,b2,b3⟩:=rK h2;have g1:=dM (show 0<l.lo.length by omega);have g2:=dM (show 0<l.hi.length by omega);refine Ev.eq ?_;unfold nY;refine aB (aS (i:=0) g1) (aB (aHf hn (a3 _ (dF g1)) hp) (aB (aS (i:=0) g2) (aB (aHf hn (b3 _ (dF g2)) hp) ?_)));refine Ev.loop (fun x:Int×Int=> ∃i:Nat,x.2=i∧i≤l.lo.length∧x.1=mx ((evs l.lo p).take (max i 1))) (fun x=>l.lo.length-x.2.toNat) ?_ n _ ⟨0,rfl,by omega,(aC9 (kY g1)).symm⟩ (by dsimp only;omega);rintro again ⟨x,z⟩ ⟨i,hz,hi,hx⟩ hr;dsimp only at hz hx⊢;subst hz;refine aK (fun hlt=>?_) fun hge=>?_
 ·have g:=dM (show i<l.lo.length by omega);refine aB (aS g) (aB (aHf hn (a3 _ (dF g)) hp) ?_);rw [aN (by omega)];refine hr _ ⟨i+1,by dsimp only;omega,by omega,?_⟩ (by dsimp only;omega);dsimp only;rw [show max (i+1) 1=i+1 by omega];cases i with
  |zero=>rw [hx,show max 0 1=1 by rfl,nH,aC9 (kY g)];omega
  |succ i=>rw [aEx (kY (p:=p) g) (by omega),hx,show max (i+1) 1=i+1 by omega]
 have hie:i=l.lo.length:=by omega
 have hx':x=kI l p:=by rw [hx,hie,Nat.max_eq_left (by omega),←D0 l.lo p,yD];rfl
 refine Ev.loop (fun x:Int×Int=> ∃i:Nat,x.2=i∧i≤l.hi.length∧x.1=mn ((evs l.hi p).take (max i 1))) (fun x=>l.hi.length-x.2.toNat) ?_ n _ ⟨0,rfl,by omega,(aDa (kY g2)).symm⟩ (by dsimp only;omega);rintro again2 ⟨y,z⟩ ⟨i,hz,hi,hy⟩ hr2;dsimp only at hz hy⊢;subst hz;refine aK (fun hlt=>?_) fun hge=>Ev.some ?_
 ·have g:=dM (show i<l.hi.length by omega);refine aB (aS g) (aB (aHf hn (b3 _ (dF g)) hp) ?_);rw [aN (by omega)];refine hr2 _ ⟨i+1,by dsimp only;omega,by omega,?_⟩ (by dsimp only;omega);dsimp only;rw [show max (i+1) 1=i+1 by omega];cases i with
  |zero=>rw [hy,show max 0 1=1 by rfl,nH,aDa (kY g)];omega
  |succ i=>rw [aEB (kY (p:=p) g) (by omega),hy,show max (i+1) 1=i+1 by omega]
 have hie:i=l.hi.length:=by omega
 rw [hx',hy,hie,Nat.max_eq_left (by omega),←D0 l.hi p,yD];rfl
theorem C2{l:Loop}{d d':Int}(h1:cA l.lo d=true)(h2:cA l.hi d'=true){k:Nat}{p:List Int}(hp:pL k p)(hk:k≤3){v:Int}(hv:kI l p≤v∧v<pM l p):pL (k+1) (p++[v]):=by
 obtain⟨a1,a2,a3⟩:=rK h1;obtain⟨b1,b2,b3⟩:=rK h2;have e1: -(40*(100*40^k))≤kI l p:=by
  cases hl:l.lo with
  |nil=>rw [hl] at a1;simp at a1
  |cons a as=>
   have:=(aHn (a3 a (by rw [hl];simp)) hp hk).1;unfold kI evs;rw [hl];exact Int.le_trans this (aJT _ _)
 have e2:pM l p≤40*(100*40^k):=by
  cases hl:l.hi with
  |nil=>rw [hl] at b1;simp at b1
  |cons a as=>
   have:=(aHn (b3 a (by rw [hl];simp)) hp hk).2;unfold pM evs;rw [hl];exact Int.le_trans (aJU _ _) this
 obtain⟨p1,p2,p3⟩:=hp;have e3:(100*40^(k+1):Int)=40*(100*40^k):=by rw [Int.pow_succ];omega
 have q:=(G5 (k:=k) (by omega)).1;refine⟨by simp [p1],by omega,fun x hx=>?_⟩;rw [e3];rcases E2.1 hx with h|h
 ·have:=p3 x h;simp only [oH] at this⊢;omega
 simp at h;subst h;simp only [oH];omega
def pts:List Loop→List Int→List (List Int)
 | [],p=>[p]
 |l::ls,p=>(kG (kI l p) (pM l p)).flatMap fun v=>pts ls (p++[v])
def wk:List Loop→List Int→Int
 | [],_=>1
 |l::ls,p=>1+((kG (kI l p) (pM l p)).map fun v=>wk ls (p++[v])).sum
theorem pQ{α:Type}(f:α→Int): ∀(l:List α),(∀x∈l,1≤f x)→(l.length:Int)≤(l.map f).sum
 | [],_=>by simp
 |x::l,h=>by have h1:=pQ f l fun y hy=>h y (by simp [hy]);have h2:=h x (by simp);simp only [List.map_cons,List.sum_cons,List.length_cons];omega
theorem Y3: ∀(ls:List Loop) (p:List Int),1≤wk ls p
 | [],p=>S6 _
 |l::ls,p=>by have:=pQ (fun v=>wk ls (p++[v])) (kG (kI l p) (pM l p)) fun v _=>Y3 ls _;simp only [wk];omega
def Fit(nest:List Loop):Prop:=nest.length≤4∧ ∀(i:Nat) l,nest[i]? =some l→cA l.lo (i:Int)=true∧cA l.hi (i:Int)=true
theorem aAk{nest:List Loop}(h:jN nest=true):Fit nest:=by
 simp only [jN,Bool.and_eq_true,decide_eq_true_eq] at h;refine⟨h.2,fun i l hl=>?_⟩
 have:=uU h.1 hl;simpa [Bool.and_eq_true] using this
theorem tN{nest:List Loop}{k:Nat}{l:Loop}{ls:List Loop}(h:nest.drop k=l::ls):nest[k]? =some l∧nest.drop (k+1)=ls∧k<nest.length:=by
 have h1:(nest.drop k)[0]? =some l:=by rw [h];rfl
 rw [N7,vBk] at h1;refine⟨h1,?_,(b7.1 h1).1⟩
 have:(nest.drop k).drop 1=ls:=by rw [h];rfl
 rwa [List.drop_drop] at this
theorem wZ{nest:List Loop}{k:Nat}(h:nest.drop k=[])(hk:k≤nest.length):k=nest.length:=by
 have:(nest.drop k).length=0:=by rw [h];rfl
 rw [vAO] at this;omega
theorem dE(p:List Int)(h:p.length≤1100000):app [] p=some p:=by rw [fH (by simp;omega)];rfl
theorem aBc(l:List Int)(f:Int→Int)(v:Int):((l++[v]).map f).sum=(l.map f).sum+f v:=by simp
theorem aI6{lo v:Int}(h:lo≤v):((kG lo v).length:Int)=v-lo:=by unfold kG;simp;omega
theorem S9{nest:List Loop}(hf:Fit nest): ∀(ls:List Loop) (n k:Nat) (p:List Int) (most:Int),5500000+ls.length≤n→nest.drop k=ls→k≤nest.length→pL k p→0≤most→most≤1200→
  Ev (s_l2Work n nest p most) (fun r=>(wk ls p≤most→r=wk ls p)∧(most<wk ls p→most<r)∧1≤r∧r≤most+1)
 | [],n,k,p,most,hn,hd,hk,hp,h0,h1=>by
  obtain⟨n,rfl⟩: ∃j,n=j+1:=⟨n-1,by omega⟩
  have hk':=wZ hd hk;have hpl:=hp.1;unfold s_l2Work;rw [decide_eq_true (show(p.length:Int)=(nest.length:Int) by omega)];exact Ev.some ⟨fun _=>rfl,fun h=>by simp only [wk] at h;omega,by omega,by omega⟩
 |l::ls,n,k,p,most,hn,hd,hk,hp,h0,h1=>by
  obtain⟨n,rfl⟩: ∃j,n=j+1:=⟨n-1,by omega⟩
  obtain⟨d1,d2,d3⟩:=tN hd;obtain⟨s1,s2⟩:=hf.2 k l d1;have hpl:=hp.1;have hk3:k≤3:=by have:=hf.1;omega
  simp only [List.length_cons] at hn;unfold s_l2Work;rw [decide_eq_false (show¬(p.length:Int)=(nest.length:Int) by omega)];refine bI (aB (x:=l) (by rw [hpl];exact aS d1) (aB (F6 (by omega) s1 s2 hp) ?_));let f:Int→Int:=fun v=>wk ls (p++[v]);have hfp: ∀v,1≤f v:=fun v=>Y3 _ _;have hW:wk (l::ls) p=1+((kG (kI l p) (pM l p)).map f).sum:=rfl;refine Ev.loop (fun x:Int×Int=>kI l p≤x.2∧(x.2≤pM l p∨x.2=kI l p)∧(1+((kG (kI l p) x.2).map f).sum≤most→x.1=1+((kG (kI l p) x.2).map f).sum)∧(most<1+((kG (kI l p) x.2).map f).sum→most<x.1)∧1≤x.1∧x.1≤most+1)
   (fun x=>(most+1-x.1).toNat) ?_ n _ ⟨S6 _,.inr rfl,fun _=>by rw [hJ (S6 _)];rfl,fun h=>by rw [hJ (S6 _)] at h;simp at h;dsimp only;omega,by dsimp only;omega,by dsimp only;omega⟩ (by dsimp only;omega)
  rintro again ⟨x,v⟩ ⟨i1,i2,i3,i4,i5,i6⟩ hr;dsimp only at i1 i2 i3 i4 i5 i6⊢;refine Ev.jn (fun z=>z=decide (v<pM l p∧x≤most)) (fun j hj=>aK (fun h=>hj _ ?_) fun h=>hj _ ?_) fun z hz=>?_
  ·by_cases hx:x≤most
   ·rw [decide_eq_true hx,decide_eq_true ⟨h,hx⟩]
   rw [decide_eq_false hx,decide_eq_false fun h=>hx h.2]
  ·rw [decide_eq_false fun h'=>h h'.1]
  subst hz;refine aK (fun⟨hv,hx⟩=>?_) fun hno=>Ev.some ?_
  ·have hsum:x=1+((kG (kI l p) v).map f).sum:=i3 (by apply Int.not_lt.1;intro h;have:=i4 h;omega);have hp':=C2 s1 s2 hp hk3 ⟨i1,hv⟩;have e1:wr (most-x)=most-x:=by rw [aN (by omega)]
   rw [e1];refine aB (dE p (by omega)) (aB (fH (by simp;omega)) (iQ (S9 hf ls n (k+1) (p++[v]) (most-x) (by omega) d2 (by omega) hp' (by omega) (by omega)) fun r ⟨r1,r2,r3,r4⟩=>?_));have hvb:v<pM l p:=hv;have hvr: -1000000000≤v∧v≤1000000000:=by
    have h9:=hp'.2.2 v (by simp);have h8:=G5 hp'.2.1;simp only [oH] at h9;omega
   rw [aN (n:=v+1) (by omega),aN (n:=x+r) (by omega)];have hs:1+((kG (kI l p) (v+1)).map f).sum=x+f v:=by rw [m0 i1,aBc,hsum];omega
   refine hr _ ⟨by dsimp only;omega,.inl (by dsimp only;omega),?_,?_,by dsimp only;omega,by dsimp only;omega⟩ (by dsimp only;omega)
   ·dsimp only;rw [hs];intro h
    have:r=f v:=r1 (show f v≤most-x by omega);omega
   dsimp only;rw [hs];intro h
   have:most-x<r:=r2 (show most-x<f v by omega);omega
  have hmono:1+((kG (kI l p) v).map f).sum≤wk (l::ls) p∧(pM l p≤v→1+((kG (kI l p) v).map f).sum=wk (l::ls) p):=by
   rw [hW];by_cases h:v<pM l p
   ·refine⟨?_,fun h'=>by omega⟩;rw [tE i1 h,vAT,List.sum_append,List.map_cons,List.sum_cons]
    have:=pQ f (kG (v+1) (pM l p)) fun y _=>hfp y
    have:=hfp v;omega
   have:kG (kI l p) v=kG (kI l p) (pM l p):=by
    rcases i2 with h2|h2
    ·rw [show v=pM l p by omega]
    subst h2;rw [hJ (S6 _),hJ (by omega)]
   rw [this];exact⟨S6 _,fun _=>rfl⟩
  refine⟨fun h=>?_,fun h=>?_,i5,i6⟩
  ·have hx:=i3 (by omega);rw [hx];apply hmono.2;apply Int.not_lt.1;intro hv;exact hno ⟨hv,by omega⟩
  apply Int.not_le.1;intro hx;have hv:pM l p≤v:=by apply Int.not_lt.1;intro hv;exact hno ⟨hv,hx⟩
  have:=i4 (by rw [hmono.2 hv];exact h);omega
theorem zO{nest:List Loop}(hf:Fit nest): ∀(ls:List Loop) (n k:Nat) (p:List Int) (out:List (List Int)),5500000+ls.length≤n→nest.drop k=ls→k≤nest.length→pL k p→wk ls p≤1200→out.length≤120→
  Ev (s_l2Points n out nest p) (fun r=>(out.length+(pts ls p).length≤120→r=out++pts ls p)∧(120<out.length+(pts ls p).length→120<r.length))
 | [],n,k,p,out,hn,hd,hk,hp,h0,h1=>by
  obtain⟨n,rfl⟩: ∃j,n=j+1:=⟨n-1,by omega⟩
  have hk':=wZ hd hk;have hpl:=hp.1;have hf1:=hf.1;unfold s_l2Points;rw [decide_eq_true (show(p.length:Int)=(nest.length:Int) by omega)];refine b8 (aB (dE p (by omega)) (aB (fH (by simp;omega)) (Ev.some ⟨fun _=>rfl,fun h=>by simp [pts] at h ⊢; omega⟩)))
 |l::ls,n,k,p,out,hn,hd,hk,hp,h0,h1=>by
  obtain⟨n,rfl⟩: ∃j,n=j+1:=⟨n-1,by omega⟩
  obtain⟨d1,d2,d3⟩:=tN hd;obtain⟨s1,s2⟩:=hf.2 k l d1;have hpl:=hp.1;have hf1:=hf.1;have hk3:k≤3:=by omega
  simp only [List.length_cons] at hn;unfold s_l2Points;rw [decide_eq_false (show¬(p.length:Int)=(nest.length:Int) by omega)];refine bI (aB (x:=l) (by rw [hpl];exact aS d1) (aB (F6 (by omega) s1 s2 hp) ?_));let f:Int→Int:=fun v=>wk ls (p++[v]);have hfp: ∀v,1≤f v:=fun v=>Y3 _ _;have hW:wk (l::ls) p=1+((kG (kI l p) (pM l p)).map f).sum:=rfl;let g:Int→List (List Int):=fun v=>pts ls (p++[v]);have hP:pts (l::ls) p=(kG (kI l p) (pM l p)).flatMap g:=rfl;have hlen:kI l p≤pM l p→pM l p-kI l p≤1199:=fun hle=>by
   have:=pQ f (kG (kI l p) (pM l p)) fun y _=>hfp y
   have:=aI6 hle;omega
  refine Ev.loop (fun x:List (List Int)×Int=>kI l p≤x.2∧(x.2≤pM l p∨x.2=kI l p)∧(out.length+((kG (kI l p) x.2).flatMap g).length≤120→x.1=out++(kG (kI l p) x.2).flatMap g)∧(120<out.length+((kG (kI l p) x.2).flatMap g).length→120<x.1.length))
   (fun x=>(pM l p-x.2).toNat) ?_ n _ ⟨S6 _,.inr rfl,fun _=>by rw [hJ (S6 _)];simp,fun h=>by rw [hJ (S6 _)] at h;simp at h;omega⟩ (by dsimp only;omega)
  rintro again ⟨x,v⟩ ⟨i1,i2,i3,i4⟩ hr;dsimp only at i1 i2 i3 i4⊢;refine Ev.jn (fun z=>z=decide (v<pM l p∧x.length≤120)) (fun j hj=>aK (fun h=>hj _ ?_) fun h=>hj _ ?_) fun z hz=>?_
  ·by_cases hx:x.length≤120
   ·rw [decide_eq_true (show(x.length:Int)≤120 by omega),decide_eq_true ⟨h,hx⟩]
   rw [decide_eq_false (show¬(x.length:Int)≤120 by omega),decide_eq_false fun h=>hx h.2]
  ·rw [decide_eq_false fun h'=>h h'.1]
  subst hz;refine aK (fun⟨hv,hx⟩=>?_) fun hno=>Ev.some ?_
  ·have hxe:x=out++(kG (kI l p) v).flatMap g:=i3 (by apply Nat.not_lt.1;intro h;have:=i4 h;omega);have hp':=C2 s1 s2 hp hk3 ⟨i1,hv⟩;have hwc:f v≤1200:=by
    rw [hW,tE i1 hv,vAT,List.sum_append,List.map_cons,List.sum_cons] at h0
    have:=pQ f (kG (v+1) (pM l p)) fun y _=>hfp y
    have:=pQ f (kG (kI l p) v) fun y _=>hfp y;omega
   refine aB (dE p (by omega)) (aB (fH (by simp;omega)) (iQ (zO hf ls n (k+1) (p++[v]) x (by omega) d2 (by omega) hp' hwc hx) fun r ⟨r1,r2⟩=>?_));have hvr: -1000000000≤v∧v≤1000000000:=by
    have h9:=hp'.2.2 v (by simp);have h8:=G5 hp'.2.1;simp only [oH] at h9;omega
   rw [aN (n:=v+1) (by omega)];have hs:(kG (kI l p) (v+1)).flatMap g=(kG (kI l p) v).flatMap g++g v:=by rw [m0 i1,vBb];simp
   refine hr _ ⟨by dsimp only;omega,.inl (by dsimp only;omega),?_,?_⟩ (by dsimp only;omega)
   ·dsimp only;rw [hs];intro h;simp only [List.length_append] at h;have hl:x.length=out.length+((kG (kI l p) v).flatMap g).length:=by rw [hxe,oK]
    rw [r1 (show x.length+(g v).length≤120 by omega),hxe,vAN]
   dsimp only;rw [hs];intro h;simp only [List.length_append] at h;have hl:x.length=out.length+((kG (kI l p) v).flatMap g).length:=by rw [hxe,oK]
   exact r2 (show 120<x.length+(g v).length by omega)
  have hmono:((kG (kI l p) v).flatMap g).length≤(pts (l::ls) p).length∧(pM l p≤v→(kG (kI l p) v).flatMap g=pts (l::ls) p):=by
   rw [hP];by_cases h:v<pM l p
   ·refine⟨?_,fun h'=>by omega⟩;rw [tE i1 h,vBb,oK];omega
   have:kG (kI l p) v=kG (kI l p) (pM l p):=by
    rcases i2 with h2|h2
    ·rw [show v=pM l p by omega]
    subst h2;rw [hJ (S6 _),hJ (by omega)]
   rw [this];exact⟨lI _,fun _=>rfl⟩
  refine⟨fun h=>?_,fun h=>?_⟩
  ·have hx:=i3 (by omega);rw [hx,hmono.2];apply Int.not_lt.1;intro hv;exact hno ⟨hv,by rw [hx,oK];omega⟩
  apply Nat.not_le.1;intro hx;have hv:pM l p≤v:=by apply Int.not_lt.1;intro hv;exact hno ⟨hv,hx⟩
  have:=i4 (by rw [hmono.2 hv];exact h);omega
theorem V8{nest:List Loop}(hf:Fit nest): ∀(ls:List Loop) (n k:Nat) (p:List Int) (st:Int) (out:List (List Int)),5500000+ls.length≤n→nest.drop k=ls→k≤nest.length→pL k p→0≤st→st≤1199→out.length≤120→
  Ev (i_walking_walk n ⟨nest,st,out⟩ p) (fun r=>(st+wk ls p≤1200∧out.length+(pts ls p).length≤120→r=(true,⟨nest,st+wk ls p-1,out++pts ls p⟩))∧(¬(st+wk ls p≤1200∧out.length+(pts ls p).length≤120)→r.1=false))
 | [],n,k,p,st,out,hn,hd,hk,hp,h0,h1,h2=>by
  obtain⟨n,rfl⟩: ∃j,n=j+1:=⟨n-1,by omega⟩
  have hk':=wZ hd hk;have hpl:=hp.1;have hf1:=hf.1;unfold i_walking_walk;dsimp only;rw [decide_eq_true (show(p.length:Int)=(nest.length:Int) by omega)];have hc:m_ownClone p=some p:=by unfold m_ownClone;rw [if_pos (by omega)]
  refine b8 (aB hc (aB (fH (by simp;omega)) (Ev.some ⟨fun h=>?_,fun h=>?_⟩)))
  ·simp only [wk,pts,List.length_singleton] at h⊢;rw [decide_eq_true (by simp;omega),show st+1-1=st by omega]
  simp only [wk,pts,List.length_singleton] at h⊢;exact decide_eq_false (by simp;omega)
 |l::ls,n,k,p,st,out,hn,hd,hk,hp,h0,h1,h2=>by
  obtain⟨n,rfl⟩: ∃j,n=j+1:=⟨n-1,by omega⟩
  obtain⟨d1,d2,d3⟩:=tN hd;obtain⟨s1,s2⟩:=hf.2 k l d1;have hpl:=hp.1;have hf1:=hf.1;have hk3:k≤3:=by omega
  simp only [List.length_cons] at hn;unfold i_walking_walk;dsimp only;rw [decide_eq_false (show¬(p.length:Int)=(nest.length:Int) by omega)];refine bI (aB (x:=l) (by rw [hpl];exact aS d1) (aB (aFt (by omega) s1 s2 hp) ?_));let f:Int→Int:=fun v=>wk ls (p++[v]);have hfp: ∀v,1≤f v:=fun v=>Y3 _ _;have hW:wk (l::ls) p=1+((kG (kI l p) (pM l p)).map f).sum:=rfl;let g:Int→List (List Int):=fun v=>pts ls (p++[v]);have hP:pts (l::ls) p=(kG (kI l p) (pM l p)).flatMap g:=rfl;refine Ev.loop (fun x:List Loop×Int×List (List Int)×Int=>x.1=nest∧kI l p≤x.2.2.2∧(x.2.2.2≤pM l p∨x.2.2.2=kI l p)∧x.2.1=st+((kG (kI l p) x.2.2.2).map f).sum∧x.2.2.1=out++(kG (kI l p) x.2.2.2).flatMap g∧0≤x.2.1∧x.2.1≤1199∧x.2.2.1.length≤120)
   (fun x=>(1200-x.2.1).toNat) ?_ n _ ⟨rfl,S6 _,.inr rfl,by dsimp only;rw [hJ (S6 _)];simp,by dsimp only;rw [hJ (S6 _)];simp,h0,h1,h2⟩ (by dsimp only;omega)
  rintro again ⟨nst,x,o,v⟩ ⟨i0,i1,i2,i3,i4,i5,i6,i7⟩ hr;dsimp only at i0 i1 i2 i3 i4 i5 i6 i7⊢;subst i0;have hol:o.length=out.length+((kG (kI l p) v).flatMap g).length:=by rw [i4,oK]
  refine aK (fun hv=>?_) fun hv=>Ev.some ?_
  ·have hp':=C2 s1 s2 hp hk3 ⟨i1,hv⟩;have hrest:wk (l::ls) p≥1+((kG (kI l p) v).map f).sum+f v∧(pts (l::ls) p).length≥((kG (kI l p) v).flatMap g).length+(g v).length:=by
    rw [hW,hP,tE i1 hv,vAT,List.sum_append,List.map_cons,List.sum_cons,vBb,oK,List.flatMap_cons,oK]
    have:=pQ f (kG (v+1) (pM l p)) fun y _=>hfp y;constructor
    ·omega
    omega
   have hvr: -1000000000≤v∧v≤1000000000:=by
    have h9:=hp'.2.2 v (by simp);have h8:=G5 hp'.2.1;simp only [oH] at h9;omega
   have e1:wr (x+1)=x+1:=by rw [aN (by omega)]
   have e2:wr (x+1+1)=x+1+1:=by rw [aN (by omega)]
   have e3:wr (v+1)=v+1:=by rw [aN (by omega)]
   rw [e1,e2,e3];refine Ev.jn (fun z:List Loop×Int×List (List Int)×Bool=>(z.2.2.2=false→z.1=nst∧x+f v≤1199∧o.length+(g v).length≤120∧z.2.1=x+f v∧z.2.2.1=o++g v)∧(z.2.2.2=true→ ¬(st+wk (l::ls) p≤1200∧out.length+(pts (l::ls) p).length≤120)))
    (fun j hj=>aK (fun h=>hj _ ⟨fun h'=>(by cases h'),fun _=>?_⟩) fun h=>?_) fun z hz=>?_
   ·have:=hfp v;omega
   ·have hc:m_ownClone p=some p:=by unfold m_ownClone;rw [if_pos (by omega)]
    refine aB hc (aB (fH (by simp;omega)) (iQ (V8 hf ls n (k+1) (p++[v]) (x+1) o (by omega) d2 (by omega) hp' (by omega) (by omega) i7) fun r ⟨r1,r2⟩=>?_));by_cases hc:x+1+f v≤1200∧o.length+(g v).length≤120
    ·rw [r1 hc];exact hj _ ⟨fun _=>⟨rfl,by omega,hc.2,show x+1+f v-1=x+f v by omega,rfl⟩,fun h=>(by cases h)⟩
    have hr1:=r2 hc;obtain⟨rb,⟨rn,rs,ro⟩⟩:=r;dsimp only at hr1⊢;subst hr1;exact hj _ ⟨fun h=>(by cases h),fun _=>by omega⟩
   obtain⟨za,zb,zc,zd⟩:=z;obtain⟨z2,z3⟩:=hz;dsimp only at z2 z3⊢;cases zd with
   |true=>exact Ev.some ⟨fun h=>absurd h (z3 rfl),fun _=>rfl⟩
   |false=>
    obtain⟨rfl,y1,y2,y3,y4⟩:=z2 rfl;refine hr _ ⟨rfl,by dsimp only;omega,.inl (by dsimp only;omega),?_,?_,by dsimp only;have:=hfp v;omega,by dsimp only;omega,?_⟩ (by dsimp only;have:=hfp v;omega)
    ·dsimp only;rw [m0 i1,aBc,y3,i3];omega
    ·dsimp only;rw [y4,i4,m0 i1,vBb];simp
    dsimp only;rw [y4,oK];exact y2
  have:kG (kI l p) v=kG (kI l p) (pM l p):=by
   rcases i2 with h2|h2
   ·rw [show v=pM l p by omega]
   subst h2;rw [hJ (S6 _),hJ (by omega)]
  rw [this] at i3 i4 hol;rw [←hP] at i4 hol;refine⟨fun h=>?_,fun h=>?_⟩
  ·rw [i4,i3,hW,show st+(1+((kG (kI l p) (pM l p)).map f).sum)-1=st+((kG (kI l p) (pM l p)).map f).sum by omega]
  exact absurd ⟨by omega,by omega⟩ h
def NP(nest:List Loop):Option (List (List Int)):=if jN nest=true∧wk nest []≤1200∧(pts nest []).length≤120 then some (pts nest []) else none
def aDC:Option (List (List Int))→List (List Int)×Bool
 |none=>([],false)
 |some l=>(l,true)
theorem pt0:pL 0 []:=⟨rfl,by omega,fun x h=>by cases h⟩
theorem B0{n:Nat}(hn:6600000≤n){nest:List Loop}(h:SmN nest):mA n nest=some (aDC (NP nest)):=by
 refine Ev.eq ?_;unfold mA;refine aB (J1 (by omega) h) ?_;unfold NP;cases hv:jN nest with
 |false=>exact Ev.some (by simp [aDC])
 |true=>
  have hf:=aAk hv;refine iQ (V8 hf nest n 0 [] 0 [] (by have:=hf.1;omega) rfl (by omega) pt0 (by omega) (by omega) (by simp)) fun r ⟨r1,r2⟩=>?_;by_cases hc:(0:Int)+wk nest []≤1200∧([]:List (List Int)).length+(pts nest []).length≤120
  ·rw [r1 hc,if_pos ⟨rfl,by omega,by simpa using hc.2⟩];exact Ev.some (by simp [aDC])
  rw [r2 hc,if_neg fun h=>hc ⟨by omega,by simpa using h.2.2⟩];exact Ev.some rfl
theorem A7{n:Nat}(hn:6600000≤n){nest:List Loop}(h:SmN nest):l4 n nest=some (aDC (NP nest)):=by
 refine Ev.eq ?_;unfold l4;refine Ev.jn (fun z=>z= !(jN nest&&decide (wk nest []≤1200))) (fun j hj=>aB (G0 (by omega) h) ?_) fun z hz=>?_
 ·cases hv:jN nest with
  |false=>exact hj _ (by rw [hv];rfl)
  |true=>
   have hf:=aAk hv;refine iQ (S9 hf nest n 0 [] 1200 (by have:=hf.1;omega) rfl (by omega) pt0 (by omega) (by omega)) fun r ⟨r1,r2,r3,r4⟩=>hj _ ?_;rw [hv,vAU];by_cases hw:wk nest []≤1200
   ·rw [decide_eq_true hw,decide_eq_false (by rw [r1 hw];omega)];rfl
   rw [decide_eq_false hw,decide_eq_true (r2 (by omega))];rfl
 subst hz;unfold NP;cases hv:jN nest with
 |false=>exact Ev.some (by simp [aDC])
 |true=>
  have hf:=aAk hv;by_cases hw:wk nest []≤1200
  ·rw [decide_eq_true hw];refine iQ (zO hf nest n 0 [] [] (by have:=hf.1;omega) rfl (by omega) pt0 hw (by simp)) fun r ⟨r1,r2⟩=>?_;by_cases hl:(pts nest []).length≤120
   ·rw [r1 (by simpa using hl),if_pos ⟨rfl,hw,hl⟩];refine aK (fun h=>absurd h (by simp;omega)) fun _=>Ev.some (by simp [aDC])
   have:=r2 (by simp;omega);rw [if_neg fun h=>hl h.2.2];exact aK (fun _=>Ev.some rfl) fun h=>absurd h (by omega)
  rw [decide_eq_false hw,if_neg fun h=>hw h.2.1];exact Ev.some rfl
def lQ(s:List UInt8):Bool:=match s with
 | [b]=>decide (65≤b.toNat∧b.toNat≤68)
 |_=>false
theorem pZ{s:List UInt8}(h:s.length≠1):lQ s=false:=by
 match s,h with
 | [],_=>rfl
 | [b],h=>exact absurd rfl h
 |_::_::_,_=>rfl
theorem aKN{s:List UInt8}(h:s.length=1): ∃b,s=[b]:=by
 match s,h with
 | [b],_=>exact⟨b,rfl⟩
theorem aGi(b:UInt8)(k:Nat)(hk:k<256):(b=UInt8.ofNat k)↔b.toNat=k:=by
 constructor
 ·intro h;rw [h];simp;omega
 intro h;rw [←h];simp
theorem P4(b:UInt8):Lib.contains [65,66,67,68] [b]=decide (65≤b.toNat∧b.toNat≤68):=by
 have e1:(b=65)↔b.toNat=65:=aGi b 65 (by omega);have e2:(b=66)↔b.toNat=66:=aGi b 66 (by omega);have e3:(b=67)↔b.toNat=67:=aGi b 67 (by omega);have e4:(b=68)↔b.toNat=68:=aGi b 68 (by omega);by_cases h1:b=65
 ·subst h1;decide
 by_cases h2:b=66
 ·subst h2;decide
 by_cases h3:b=67
 ·subst h3;decide
 by_cases h4:b=68
 ·subst h4;decide
 rw [e1] at h1;rw [e2] at h2;rw [e3] at h3;rw [e4] at h4;rw [decide_eq_false (by omega)];rw [←e1] at h1;rw [←e2] at h2;rw [←e3] at h3;rw [←e4] at h4;simp [Lib.contains,Lib.index,h1,h2,h3,h4]
theorem wU(n:Nat)(s:List UInt8):o7 n s=some (lQ s):=by
 unfold o7;by_cases h:s.length=1
 ·obtain⟨b,rfl⟩:=aKN h;simp only [jn,m_contains];rw [if_pos (by simp),P4];rfl
 rw [decide_eq_false (show¬(s.length:Int)=1 by omega),pZ h];rfl
theorem H8(b:UInt8):Op.bytesLess [b] [65]=decide (b.toNat<65):=by simp [Op.bytesLess,UInt8.lt_iff_toNat_lt]
theorem H7(b:UInt8):(Op.bytesLess [b] [68]||[b]==[68])=decide (b.toNat≤68):=by
 have e:(b=68)↔b.toNat=68:=aGi b 68 (by omega);by_cases h:b=68
 ·subst h;decide
 have h':b.toNat≠68:=fun e'=>h (e.2 e')
 have:([b]==[(68:UInt8)])=false:=by simp [h]
 rw [this,Bool.or_false];simp only [Op.bytesLess,Bool.and_false,Bool.or_false,UInt8.lt_iff_toNat_lt];apply decide_eq_decide.2;show b.toNat<68↔_;omega
def fK(a:Access)(d:Int):Bool:=a.subs.all (fun x=>bP x d)&&(lQ a.array&&decide (1≤a.subs.length∧a.subs.length≤2))
theorem aFw{n:Nat}(hn:5500000≤n){a:Affine}(ha:SmA a)(d:Int):jR n a d=some (!bP a d):=I9 hn ha d
theorem tZ{n:Nat}(hn:5500000≤n){a:Access}(ha:zL a.subs)(d:Int):m7 n a d=some (fK a d):=by
 obtain⟨h0,h1⟩:=ha;unfold m7;rw [wU,qE];have hc:=qV (n:=n) (f:=fun q0=>jR n q0 d) (p:=fun a=> !bP a d) (l:=a.subs) (fun x hx=>aFw hn (h1 x hx) d) (by omega) (by omega);simp only [jn,Option.bind];rw [hc];unfold fK;have e:(a.subs.any fun a=> !bP a d)= !(a.subs.all fun a=>bP a d):=by
  rw [vAX];simp
 rw [e];cases lQ a.array<;>cases decide (1≤a.subs.length∧a.subs.length≤2)<;>simp
theorem tV{n:Nat}(hn:5500000≤n){a:Access}(ha:zL a.subs)(d:Int):mY n a d=some (fK a d):=by
 obtain⟨h0,h1⟩:=ha;refine Ev.eq ?_;unfold mY;refine mI (l:=a.subs) (p:=fun _ a=>bP a d) (by omega) (by omega) (fun again i x hx hgo hno=>?_) (fun again hall=>?_) (fun⟨i,x,hx,hp⟩=>?_)
 ·have hi:=(b7.1 hx).1;have hm:=h1 x (dF hx);rw [decide_eq_true (show(i:Int)<(a.subs.length:Int) by omega)];refine b8 (Ev.jn (fun z=>z= !bP x d) (fun j hj=>aB (aS hx) (aB (kF hn x hm) ?_)) fun z hz=>?_)
  ·cases ha:bM x with
   |false=>exact hj _ (by unfold bP;rw [ha];rfl)
   |true=>exact aB (uH hn hm) (hj _ (by unfold bP;rw [ha,ltd];simp))
  subst hz;cases hb:bP x d with
  |true=>show Ev (again _) _;rw [aN (by omega)];exact hgo hb
  |false=>exact Ev.some (hno hb)
 ·rw [decide_eq_false (show¬(a.subs.length:Int)<(a.subs.length:Int) by omega)];have e:a.subs.all (fun a=>bP a d)=true:=Y5.2 fun c hc=>by obtain⟨i,hi⟩:=vAB hc;exact hall i c hi
  unfold fK;rw [e,vAU];refine bI (Ev.jn (fun z=>z=(lQ a.array&&decide (1≤a.subs.length∧a.subs.length≤2))) (fun j hj=>?_) fun z hz=>Ev.some hz);by_cases h:a.array.length=1
  ·rw [decide_eq_true (show(a.array.length:Int)=1 by omega)];obtain⟨b,hb⟩:=aKN h;rw [hb] at hj⊢;rw [H8,H7];show Ev (bif _ then _ else _) _;simp only [lQ] at hj⊢;by_cases g1:b.toNat<65
   ·rw [decide_eq_true g1];exact hj _ (by rw [decide_eq_false (show¬(65≤b.toNat∧b.toNat≤68) by omega)];rfl)
   rw [decide_eq_false g1];by_cases g2:b.toNat≤68
   ·rw [decide_eq_true g2];rw [decide_eq_true (show 65≤b.toNat∧b.toNat≤68 by omega)] at hj⊢;refine aK (fun h=>hj _ ?_) fun h=>hj _ ?_
    ·by_cases h2:a.subs.length≤2
     ·rw [decide_eq_true (show(a.subs.length:Int)≤2 by omega),decide_eq_true (by omega)];rfl
     rw [decide_eq_false (show¬(a.subs.length:Int)≤2 by omega),decide_eq_false (by omega)];rfl
    rw [decide_eq_false (by omega)];rfl
   rw [decide_eq_false g2];exact hj _ (by rw [decide_eq_false (show¬(65≤b.toNat∧b.toNat≤68) by omega)];rfl)
  rw [decide_eq_false (show¬(a.array.length:Int)=1 by omega)];exact hj _ (by rw [pZ h];rfl)
 unfold fK;rw [vAF.2 ⟨x,dF hx,by rw [hp];simp⟩];rfl
def iM(a:Affine):Bool:=decide (a.coefs.length=0)&&decide (a.const=0)
def lV(a:Access):Bool:=decide (a.array=[])&&decide (a.subs.length=0)
theorem aJl(k:Nat):decide ((k:Int)=0)=decide (k=0):=decide_eq_decide.2 (by omega)
theorem P0(n:Nat)(a:Affine):m5 n a=some (iM a):=by unfold m5 iM;rw [aJl];cases decide (a.coefs.length=0)<;>rfl
theorem aBf(n:Nat)(a:Affine):oU n a=some (iM a):=by unfold oU iM;rw [aJl];cases decide (a.coefs.length=0)<;>rfl
theorem P1(n:Nat)(a:Access):i8 n a=some (lV a):=by unfold i8 lV;rw [aJl];cases decide (a.array=[])<;>rfl
theorem Z4(n:Nat)(a:Access):mL n a=some (lV a):=by unfold mL lV;rw [aJl];cases decide (a.array=[])<;>rfl
def fS(e:Expr)(d:Int):Bool:=
 if e.kind=2 then decide (e.num=0)&&(lV e.read&&bP e.index d)
 else if e.kind=3 then decide (e.num=0)&&(iM e.index&&fK e.read d)
 else if e.kind=1 then decide (0≤e.num∧e.num≤99)&&(iM e.index&&lV e.read)
 else decide (e.num=0)&&(iM e.index&&lV e.read)
def gO(k:Int):Int:=if k=1∨k=2∨k=3 then 0 else if k=4∨k=5∨k=6 then 2 else-1
theorem aBg(n:Nat)(k:Int):wE n k=some (gO k):=by
 unfold wE gO;by_cases h1:k=1
 ·subst h1;rfl
 by_cases h2:k=2
 ·subst h2;rfl
 by_cases h3:k=3
 ·subst h3;rfl
 by_cases h4:k=4
 ·subst h4;rfl
 by_cases h5:k=5
 ·subst h5;rfl
 by_cases h6:k=6
 ·subst h6;rfl
 simp [jn,h1,h2,h3,h4,h5,h6]
theorem aCO{n:Nat}(hn:5500000≤n){e:Expr}(h1:SmA e.index)(h2:zL e.read.subs)(d:Int):C0 n e d=some (fS e d):=by
 unfold C0 fS;rw [Z4,aBf,kF hn _ h1,uH hn h1,tV hn h2];by_cases k2:e.kind=2
 ·rw [if_pos k2,decide_eq_true k2];simp only [jn,Option.bind,cond_true,bP];cases decide (e.num=0)<;>cases lV e.read<;>cases bM e.index<;>simp
 rw [if_neg k2,decide_eq_false k2];by_cases k3:e.kind=3
 ·rw [if_pos k3,decide_eq_true k3];simp only [jn,Option.bind,cond_true,cond_false];cases decide (e.num=0)<;>cases iM e.index<;>simp
 rw [if_neg k3,decide_eq_false k3];by_cases k1:e.kind=1
 ·rw [if_pos k1,decide_eq_true k1];simp only [jn,Option.bind,cond_true,cond_false];by_cases g1:0≤e.num<;>by_cases g2:e.num≤99<;>cases iM e.index<;>simp [g1,g2]
 rw [if_neg k1,decide_eq_false k1];simp only [jn,Option.bind,cond_false];cases decide (e.num=0)<;>cases iM e.index<;>simp
end Go.Lift
