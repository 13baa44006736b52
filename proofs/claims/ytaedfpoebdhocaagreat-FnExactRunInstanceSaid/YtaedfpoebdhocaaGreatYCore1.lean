/- Plain facts on sums of products, on ranges, on the points of a nest. -/
import Derived.Test.YtaedfpoebdhocaaGreatYLawDraw
set_option maxRecDepth 110000000
set_option linter.unusedVariables false
namespace Go.Lift
open Go
def dot:List Int→List Int→Int
 |c::cs,x::xs=>c*x+dot cs xs
 |_,_=>0
def D5(m:Int)(x:Int):Prop:= -m≤x∧x≤m
theorem aD4{a b c x:Int}(ha:0≤a)(hb:0≤b)(h1:D5 a c)(h2:D5 b x):D5 (a*b) (c*x):=by
 obtain⟨p1,p2⟩:=h1;obtain⟨q1,q2⟩:=h2;constructor
 ·have h:=vBd (show 0≤a+c by omega) (show 0≤b+x by omega);have k:=vBd (show 0≤a-c by omega) (show 0≤b-x by omega);have e1:(a+c)*(b+x)=a*b+a*x+c*b+c*x:=by rw [Int.add_mul,Int.mul_add,Int.mul_add];omega
  have e2:(a-c)*(b-x)=a*b-a*x-c*b+c*x:=by rw [Int.sub_mul,Int.mul_sub,Int.mul_sub];omega
  rw [e1] at h;rw [e2] at k;omega
 have h:=vBd (show 0≤a+c by omega) (show 0≤b-x by omega);have k:=vBd (show 0≤a-c by omega) (show 0≤b+x by omega);have e1:(a+c)*(b-x)=a*b-a*x+c*b-c*x:=by rw [Int.add_mul,Int.mul_sub,Int.mul_sub];omega
 have e2:(a-c)*(b+x)=a*b+a*x-c*b-c*x:=by rw [Int.sub_mul,Int.mul_add,Int.mul_add];omega
 rw [e1] at h;rw [e2] at k;omega
theorem P9(cs:List Int):dot cs []=0:=by cases cs<;>rfl
theorem X2: ∀{cs xs:List Int} {c x:Int},cs[xs.length]? =some c→dot cs (xs++[x])=dot cs xs+c*x
 | [],xs,c,x,h=>by simp at h
 |d::cs,[],c,x,h=>by simp at h;subst h;simp [dot,P9]
 |d::cs,y::xs,c,x,h=>by
  have h:cs[xs.length]? =some c:=by simpa using h
  simp only [List.cons_append,dot];rw [X2 h];omega
theorem X0{cs xs:List Int}{i:Nat}{c x:Int}(hc:cs[i]? =some c)(hx:xs[i]? =some x):dot cs (xs.take (i+1))=dot cs (xs.take i)+c*x:=by have hi:=(bR.1 hx).1;rw [vAH,hx];exact X2 (by simpa [Nat.min_eq_left (Nat.le_of_lt hi)] using hc)
theorem aEW{M:Int}(hM:0≤M): ∀{cs xs:List Int},(∀c∈cs,D5 9 c)→(∀x∈xs,D5 M x)→D5 (9*M*xs.length) (dot cs xs)
 | [],xs,_,_=>by
  have:0≤9*M*(xs.length:Int):=vBd (by omega) (by omega);simp only [dot,D5];omega
 |d::cs,[],_,_=>by simp [dot,D5]
 |d::cs,y::xs,hc,hx=>by
  have h1:=aEW hM (cs:=cs) (xs:=xs) (fun c h=>hc c (by simp [h])) fun x h=>hx x (by simp [h]);have h2:=aD4 (by omega) hM (hc d (by simp)) (hx y (by simp));have e:9*M*((y::xs).length:Int)=9*M*(xs.length:Int)+9*M:=by simp [Int.mul_add]
  rw [e];simp only [dot,D5] at*;omega
def iC(lo hi:Int):List Int:=(List.range (hi-lo).toNat).map (fun(i:Nat)=>lo+(i:Int))
theorem aBQ{lo hi v:Int}:v∈iC lo hi↔lo≤v∧v<hi:=by
 simp only [iC,List.mem_map,List.mem_range];constructor
 ·rintro⟨i,hi,rfl⟩;omega
 intro h;exact⟨(v-lo).toNat,by omega,by omega⟩
theorem fG{lo hi:Int}(h:hi≤lo):iC lo hi=[]:=by unfold iC;rw [show(hi-lo).toNat=0 by omega];rfl
theorem lI{lo hi:Int}(h:lo≤hi):iC lo (hi+1)=iC lo hi++[hi]:=by unfold iC;rw [show(hi+1-lo).toNat=(hi-lo).toNat+1 by omega,List.range_succ,vBf];simp;omega
theorem qH{lo v hi:Int}(h1:lo≤v)(h2:v<hi):iC lo hi=iC lo v++v::iC (v+1) hi:=by
 obtain⟨k,hk⟩: ∃k:Nat,hi=v+1+k:=⟨(hi-v-1).toNat,by omega⟩
 subst hk;clear h2;induction k with
 |zero=>
  rw [show v+1+((0:Nat):Int)=v+1 by omega,lI h1,fG (yO _)]
 |succ k ih=>
  rw [show v+1+((k+1:Nat):Int)=v+1+(k:Int)+1 by omega,lI (by omega),ih,lI (by omega)];simp
theorem yF{α:Type}{f:α→Option Bool}{p:α→Bool}{l:List α}(hf: ∀x∈l,f x=some (p x)){n:Nat}(hl:l.length<n)(hl2:l.length≤500000000):
  ∃r:Int,aO (fun again2 (x1:Int)=>bif decide (x1<(l.length:Int)) then(Option.bind (ix l x1) fun x3=>Option.bind (f x3) fun x4=>bif x4 then(some x1) else(again2 (wr (x1+1)))) else(some (-1))) n 0=some r∧decide (0≤r)=l.any p:=by
 suffices h:Ev (aO (fun again2 (x1:Int)=>bif decide (x1<(l.length:Int)) then(Option.bind (ix l x1) fun x3=>Option.bind (f x3) fun x4=>bif x4 then(some x1) else(again2 (wr (x1+1)))) else(some (-1))) n 0) (fun r=>decide (0≤r)=l.any p) by exact h
 refine Ev.loop (fun x:Int=>0≤x∧x≤l.length∧(l.take x.toNat).any p=false) (fun x:Int=>l.length-x.toNat) ?_ n 0 ⟨by omega,by omega,by simp⟩ (by simp;omega);rintro again x ⟨h0,h1,h2⟩ hr;refine aI (fun hlt=>?_) fun hge=>?_
 ·obtain⟨y,hy,hy2⟩:=aIB h0 hlt;have hm:=cM hy2;refine aB hy (aB (hf y hm) (Ev.cond (fun ht=>Ev.some ?_) fun hfl=>?_))
  ·rw [show l.any p=true from vBm.2 ⟨y,hm,ht⟩];simp [h0]
  rw [aK (by omega)];refine hr _ ⟨by omega,by omega,?_⟩ (by omega);rw [show(x+1).toNat=x.toNat+1 by omega,vAH,hy2];simp [h2,hfl]
 refine Ev.some ?_;have hx:x.toNat=l.length:=by omega
 rw [hx,D3] at h2;rw [h2];simp
theorem kG{f:Int→Option Bool}{p:Int→Bool}{l:List Int}(hf: ∀x∈l,f x=some (p x)){n:Nat}(hl:l.length<n)(hl2:l.length≤500000000):bF n l f=some (l.any p):=by obtain⟨r,h1,h2⟩:=yF hf hl hl2;unfold bF jJ;rw [h1,←h2];rfl
theorem oJ{f:Affine→Option Bool}{p:Affine→Bool}{l:List Affine}(hf: ∀x∈l,f x=some (p x)){n:Nat}(hl:l.length<n)(hl2:l.length≤500000000):b8 n l f=some (l.any p):=by obtain⟨r,h1,h2⟩:=yF hf hl hl2;unfold b8 f6;rw [h1,←h2];rfl
theorem F0{f:Stmt→Option Bool}{p:Stmt→Bool}{l:List Stmt}(hf: ∀x∈l,f x=some (p x)){n:Nat}(hl:l.length<n)(hl2:l.length≤500000000):dP n l f=some (l.any p):=by obtain⟨r,h1,h2⟩:=yF hf hl hl2;unfold dP iF;rw [h1,←h2];rfl
theorem xK{f:Access→Option Bool}{p:Access→Bool}{l:List Access}(hf: ∀x∈l,f x=some (p x)){n:Nat}(hl:l.length<n)(hl2:l.length≤500000000):dA n l f=some (l.any p):=by obtain⟨r,h1,h2⟩:=yF hf hl hl2;unfold dA f8;rw [h1,←h2];rfl
theorem iT{α:Type}{l:List α}{p:Nat→α→Bool}{Q:Bool→Prop}{body:(Int→Option Bool)→Int→Option Bool}{n:Nat}(hl:l.length<n)(hl2:l.length≤500000000)
  (hstep: ∀again (i:Nat) x,l[i]? =some x→(p i x=true→Ev (again ((i:Int)+1)) Q)→(p i x=false→Q false)→Ev (body again (i:Int)) Q)
  (hend: ∀again,(∀(i:Nat) x,l[i]? =some x→p i x=true)→Ev (body again (l.length:Int)) Q) (hbad:(∃(i:Nat) (x:α),l[i]? =some x∧p i x=false)→Q false):Ev (aO body n 0) Q:=by
 refine Ev.loop (fun x:Int=> ∃i:Nat,x=i∧i≤l.length∧ ∀(j:Nat) y,j<i→l[j]? =some y→p j y=true) (fun x:Int=>l.length-x.toNat) ?_ n 0 ⟨0,rfl,by omega,fun j y h=>by omega⟩ (by simp;omega);rintro again x ⟨i,rfl,hi,ha⟩ hr;by_cases hlt:i<l.length
 ·have hx:=cU hlt;refine hstep again i _ hx (fun hp=>hr _ ⟨i+1,by omega,by omega,fun j y hj hy=>?_⟩ (by omega)) fun hp=>hbad ⟨i,_,hx,hp⟩;by_cases hji:j=i
  ·subst hji;rw [hx] at hy;cases hy;exact hp
  exact ha j y (by omega) hy
 have hil:i=l.length:=by omega
 subst hil;exact hend again fun j y hy=>ha j y (bR.1 hy).1 hy
def eM(a:Affine):Bool:=decide (a.coefs.length=4)&&(decide (-99≤a.const∧a.const≤99)&&a.coefs.all fun c=>decide (-9≤c∧c≤9))
theorem uN{a:Affine}(h:eM a=true):a.coefs.length=4∧D5 99 a.const∧ ∀c∈a.coefs,D5 9 c:=by simp only [eM,Bool.and_eq_true,decide_eq_true_eq,List.all_eq_true] at h;exact⟨h.1,h.2.1,h.2.2⟩
theorem cT(n:Nat)(x a b:Int):bO n x a b=some (decide (a≤x∧x≤b)):=by unfold bO;by_cases h1:a≤x<;>by_cases h2:x≤b<;>simp [jn,h1,h2]
theorem m7{n:Nat}(hn:5500000≤n)(a:Affine)(ha:a.coefs.length≤1100000):eE n a=some (eM a):=by
 have hf: ∀x∈a.coefs,d8 n x=some (!decide (-9≤x∧x≤9)):=fun x _=>by unfold d8;rw [cT];rfl
 have hc:=kG (n:=n) hf (by omega) (by omega);unfold eE v7;rw [cT];simp only [jn,Option.bind];rw [hc];unfold eM;have e:(a.coefs.any fun x=> !decide (-9≤x∧x≤9))= !(a.coefs.all fun c=>decide (-9≤c∧c≤9)):=by
  rw [vAQ];simp
 rw [e];by_cases h1:a.coefs.length=4
 ·rw [decide_eq_true (show(a.coefs.length:Int)=4 by omega),decide_eq_true h1];generalize decide (-99≤a.const∧a.const≤99)=b;cases b<;>simp
 rw [decide_eq_false (show¬(a.coefs.length:Int)=4 by omega),decide_eq_false h1];rfl
theorem pA(n:Nat)(x m:Int)(hm:0≤m∧m≤1000000000):iA n x m=some (decide (-m≤x∧x≤m)):=by
 unfold iA;rw [aK (by omega)];by_cases h1: -m≤x<;>by_cases h2:x≤m
 ·simp [jn,h1,h2]
 ·simp [jn,h1,h2]
 ·simp [jn,h1,h2]
 simp [jn,h1,h2]
theorem iB{n:Nat}(hn:5500000≤n)(a:Affine)(ha:a.coefs.length≤1100000):eB n a=some (eM a):=by
 refine Ev.eq ?_;unfold eB;refine iT (l:=a.coefs) (p:=fun _ c=>decide (-9≤c∧c≤9)) (by omega) (by omega) (fun again i x hx hgo hno=>?_) (fun again hall=>?_) (fun⟨i,x,hx,hp⟩=>?_)
 ·rw [decide_eq_true (show(i:Int)<(a.coefs.length:Int) by have:=(bR.1 hx).1;omega)];refine aB (aR hx) (aB (pA n x 9 (by omega)) ?_);have hi:=(bR.1 hx).1;cases hp:decide (-9≤x∧x≤9) with
  |true=>show Ev (again _) _;rw [aK (by omega)];exact hgo hp
  |false=>exact Ev.some (hno hp)
 ·rw [decide_eq_false (show¬(a.coefs.length:Int)<(a.coefs.length:Int) by omega)];have e:a.coefs.all (fun c=>decide (-9≤c∧c≤9))=true:=H2.2 fun c hc=>by obtain⟨i,hi⟩:=vAz hc;exact hall i c hi
  refine Ev.cond (fun h=>(by cases h)) fun _=>?_;unfold eM;rw [e];refine Ev.jn (fun z:Bool=>z=(decide (a.coefs.length=4)&&(decide (-99≤a.const∧a.const≤99)&&true))) (fun j hj=>?_) fun z hz=>Ev.some hz;refine aI (fun h=>aB (pA n a.const 99 (by omega)) (hj _ ?_)) fun h=>hj _ ?_
  ·rw [decide_eq_true (show a.coefs.length=4 by omega)];simp
  rw [decide_eq_false (show¬a.coefs.length=4 by omega)];rfl
 unfold eM;have e:a.coefs.all (fun c=>decide (-9≤c∧c≤9))=false:=T7.2 ⟨x,cM hx,by rw [hp];simp⟩;rw [e];simp
def dS(a:Affine)(p:List Int):Int:=a.const+dot a.coefs p
def ptB(M:Int)(p:List Int):Prop:= ∀x∈p,D5 M x
theorem qR{a:Affine}(ha:eM a=true){p:List Int}(hp:p.length≤4){M:Int}(hM:0≤M∧M≤1000000000)(hB:ptB M p)(i:Nat)(hi:i≤p.length):D5 1000000000000 (a.const+dot a.coefs (p.take i)):=by
 obtain⟨h1,h2,h3⟩:=uN ha;have h4:=aEW (M:=M) hM.1 (cs:=a.coefs) (xs:=p.take i) h3 fun x hx=>hB x (vAu hx);have h5:(p.take i).length≤4:=by simp;omega
 have h6:9*M*((p.take i).length:Int)≤9*M*4:=Int.mul_le_mul_of_nonneg_left (by omega) (by omega);simp only [D5] at*;omega
theorem aCH{n:Nat}(hn:5500000≤n){a:Affine}(ha:eM a=true){p:List Int}(hp:p.length≤4){M:Int}(hM:0≤M∧M≤1000000000)(hB:ptB M p):bQ n a p=some (dS a p):=by
 obtain⟨h1,h2,h3⟩:=uN ha;refine Ev.eq ?_;unfold bQ;refine Ev.loop (fun x:Int×Int=> ∃i:Nat,x.2=i∧i≤p.length∧x.1=a.const+dot a.coefs (p.take i)) (fun x=>p.length-x.2.toNat) ?_ n _ ⟨0,rfl,by omega,by simp [P9]⟩ (by simp;omega);rintro again ⟨x,k⟩ ⟨i,hk,hi,hx⟩ hr;dsimp only at hk hx⊢;subst hk;refine aI (fun hlt=>?_) fun hge=>Ev.some ?_
 ·have hlt:i<p.length:=by omega
  have hp2:=cU hlt;have hc2:=cU (show i<a.coefs.length by omega);have hd:=X0 hc2 hp2;have e1:=qR ha hp hM hB i hi;have e2:=qR ha hp hM hB (i+1) (by omega);rw [hd] at e2;have e3:=aD4 (by omega) hM.1 (h3 _ (cM hc2)) (hB _ (cM hp2));refine aB (aR hp2) (aB (aR hc2) ?_);simp only [D5] at e1 e2 e3;rw [aK (n:=a.coefs[i]*p[i]) (by omega),aK (by omega),aK (by omega)];refine hr _ ⟨i+1,by dsimp only;omega,by omega,?_⟩ (by dsimp only;omega);dsimp only;rw [hd,hx];omega
 have:i=p.length:=by omega
 rw [hx,this,D3];rfl
theorem aCv{n:Nat}(hn:5500000≤n){a:Affine}(ha:eM a=true){p:List Int}(hp:p.length≤4){M:Int}(hM:0≤M∧M≤1000000000)(hB:ptB M p):eV n a p=some (dS a p):=by
 obtain⟨h1,h2,h3⟩:=uN ha;refine Ev.eq ?_;unfold eV;refine Ev.loop (fun x:Int×Int=> ∃i:Nat,x.2=i∧i≤p.length∧x.1=a.const+dot a.coefs (p.take i)) (fun x=>p.length-x.2.toNat) ?_ n _ ⟨0,rfl,by omega,by simp [P9]⟩ (by simp;omega);rintro again ⟨x,k⟩ ⟨i,hk,hi,hx⟩ hr;dsimp only at hk hx⊢;subst hk;refine Ev.jn (fun z=>z=decide (i<p.length)) (fun j hj=>aI (fun h=>hj _ ?_) fun h=>hj _ ?_) fun z hz=>?_
 ·rw [decide_eq_true (show i<p.length by omega),decide_eq_true (show(i:Int)<(a.coefs.length:Int) by omega)]
 ·rw [decide_eq_false (show¬i<p.length by omega)]
 subst hz;refine aI (fun hlt=>?_) fun hge=>Ev.some ?_
 ·have hp2:=cU hlt;have hc2:=cU (show i<a.coefs.length by omega);have hd:=X0 hc2 hp2;have e1:=qR ha hp hM hB i hi;have e2:=qR ha hp hM hB (i+1) (by omega);rw [hd] at e2;have e3:=aD4 (by omega) hM.1 (h3 _ (cM hc2)) (hB _ (cM hp2));refine aB (aR hc2) (aB (aR hp2) ?_);simp only [D5] at e1 e2 e3;rw [aK (n:=a.coefs[i]*p[i]) (by omega),aK (by omega),aK (by omega)];refine hr _ ⟨i+1,by dsimp only;omega,by omega,?_⟩ (by dsimp only;omega);dsimp only;rw [hd,hx];omega
 have:i=p.length:=by omega
 rw [hx,this,D3];rfl
theorem cF{R:Type}{Q:R→Prop}{A B:Option R}(h:Ev A Q):Ev (bif true then A else B) Q:=h
theorem bB{R:Type}{Q:R→Prop}{A B:Option R}(h:Ev B Q):Ev (bif false then A else B) Q:=h
def eZ:List Int→Nat
 | []=>0
 |c::cs=>if eZ cs=0 then(if c=0 then 0 else 1) else eZ cs+1
theorem w6: ∀(l:List Int) (c:Int),eZ (l++[c])=if c=0 then eZ l else l.length+1
 | [],c=>by simp [eZ]
 |d::l,c=>by
  have ih:=w6 l c;simp only [List.cons_append,eZ,ih];by_cases hc:c=0
  ·simp [hc]
  simp [hc]
theorem w5{l:List Int}{i:Nat}{c:Int}(h:l[i]? =some c):eZ (l.take (i+1))=if c=0 then eZ (l.take i) else i+1:=by have hi:=(bR.1 h).1;rw [vAH,h];show eZ (l.take i++[c])=_;rw [w6,H1,Nat.min_eq_left (Nat.le_of_lt hi)]
def SmA(a:Affine):Prop:=a.coefs.length≤1100000
def xO(l:List Affine):Prop:=l.length≤1100000∧ ∀a∈l,SmA a
theorem rK{n:Nat}(hn:5500000≤n){a:Affine}(ha:SmA a):kQ n a=some (eZ a.coefs:Int):=by
 have ha:a.coefs.length≤1100000:=ha;refine Ev.eq ?_;unfold kQ;refine Ev.loop (fun x:Int×Int=> ∃i:Nat,x.2=i∧i≤a.coefs.length∧x.1=(eZ (a.coefs.take i):Int)) (fun x=>a.coefs.length-x.2.toNat) ?_ n _ ⟨0,rfl,by omega,by simp [eZ]⟩ (by simp;omega);rintro again ⟨x,k⟩ ⟨i,hk,hi,hx⟩ hr;dsimp only at hk hx⊢;subst hk;refine aI (fun hlt=>?_) fun hge=>Ev.some ?_
 ·have hlt:i<a.coefs.length:=by omega
  have hc:=cU hlt;have hd:=w5 hc;refine Ev.jn (fun z:Int=>z=(eZ (a.coefs.take (i+1)):Int)) (fun j hj=>aB (aR hc) (dB (fun h0=>hj _ ?_) fun h0=>hj _ ?_)) fun z hz=>?_
  ·rw [hd,if_neg h0,aK (by omega)];omega
  ·rw [hd,if_pos h0,hx]
  rw [aK (by omega)];exact hr _ ⟨i+1,by dsimp only;omega,by omega,hz⟩ (by dsimp only;omega)
 have:i=a.coefs.length:=by omega
 rw [hx,this,D3]
theorem z6{n:Nat}(hn:5500000≤n){a:Affine}(ha:SmA a):dR n a=some (eZ a.coefs:Int):=by
 have ha:a.coefs.length≤1100000:=ha;refine Ev.eq ?_;unfold dR;refine Ev.loop (fun x:Int=> ∃i:Nat,x=i∧i≤a.coefs.length∧eZ a.coefs=eZ (a.coefs.take i)) (fun x=>x.toNat) ?_ n _ ⟨a.coefs.length,rfl,by omega,by rw [D3]⟩ (by simp;omega);rintro again x ⟨i,rfl,hi,hx⟩ hr;cases i with
 |zero=>
  refine Ev.jn (fun z=>z=false) (fun j hj=>aI (fun h=>absurd h (by decide)) fun h=>hj _ rfl) fun z hz=>?_;subst hz;exact Ev.some (by rw [hx];rfl)
 |succ i=>
  have hlt:i<a.coefs.length:=by omega
  have hc:=cU hlt;have hd:=w5 hc;have e:wr (((i+1:Nat):Int)-1)=(i:Int):=by rw [aK (by omega)];omega
  rw [e];refine Ev.jn (fun z=>z=decide (a.coefs[i]=0)) (fun j hj=>aI (fun h=>aB (aR hc) (hj _ rfl)) fun h=>absurd (show(0:Int)<((i+1:Nat):Int) by omega) h) fun z hz=>?_;subst hz;refine aI (fun h0=>?_) fun h0=>Ev.some ?_
  ·exact hr _ ⟨i,rfl,by omega,by rw [hx,hd,if_pos h0]⟩ (by omega)
  rw [hx,hd,if_neg h0]
def bH(a:Affine)(d:Int):Bool:=eM a&&decide ((eZ a.coefs:Int)≤d)
def bP(l:List Affine)(d:Int):Bool:=l.all (fun a=>bH a d)&&decide (1≤l.length∧l.length≤2)
theorem ltd(a b:Int):decide (a<b)= !decide (b≤a):=by
 by_cases h:a<b
 ·rw [decide_eq_true h,decide_eq_false (by omega)];rfl
 rw [decide_eq_false h,decide_eq_true (by omega)];rfl
theorem wT{n:Nat}(hn:5500000≤n){l:List Affine}(hl:xO l)(d:Int):pD n l d=some (bP l d):=by
 obtain⟨h0,h1⟩:=hl;refine Ev.eq ?_;unfold pD;refine iT (l:=l) (p:=fun _ a=>bH a d) (by omega) (by omega) (fun again i x hx hgo hno=>?_) (fun again hall=>?_) (fun⟨i,x,hx,hp⟩=>?_)
 ·have hi:=(bR.1 hx).1;have hm:=h1 x (cM hx);rw [decide_eq_true (show(i:Int)<(l.length:Int) by omega)];refine cF (Ev.jn (fun z=>z= !bH x d) (fun j hj=>aB (aR hx) (aB (iB hn x hm) ?_)) fun z hz=>?_)
  ·cases ha:eM x with
   |false=>exact hj _ (by unfold bH;rw [ha];rfl)
   |true=>exact aB (rK hn hm) (hj _ (by unfold bH;rw [ha,ltd];simp))
  subst hz;cases hb:bH x d with
  |true=>show Ev (again _) _;rw [aK (by omega)];exact hgo hb
  |false=>exact Ev.some (hno hb)
 ·rw [decide_eq_false (show¬(l.length:Int)<(l.length:Int) by omega)];have e:l.all (fun a=>bH a d)=true:=H2.2 fun c hc=>by obtain⟨i,hi⟩:=vAz hc;exact hall i c hi
  unfold bP;rw [e];refine bB (Ev.jn (fun z=>z=decide (1≤l.length∧l.length≤2)) (fun j hj=>aI (fun h=>hj _ ?_) fun h=>hj _ ?_) fun z hz=>Ev.some (by rw [hz];rfl))
  ·by_cases h2:l.length≤2
   ·rw [decide_eq_true (show(l.length:Int)≤2 by omega),decide_eq_true (by omega)]
   rw [decide_eq_false (show¬(l.length:Int)≤2 by omega),decide_eq_false (by omega)]
  rw [decide_eq_false (by omega)]
 unfold bP;rw [T7.2 ⟨x,cM hx,by rw [hp];simp⟩];rfl
theorem z7{n:Nat}(hn:5500000≤n){a:Affine}(ha:SmA a)(d:Int):fH n a d=some (!bH a d):=by
 unfold fH;rw [m7 hn a ha];simp only [jn,Option.bind];cases hb:eM a with
 |false=>simp [bH,hb]
 |true=>
  rw [z6 hn ha];simp only [bH,hb,Bool.not_true,cond_false,Bool.true_and];rw [ltd]
theorem nR(n k:Nat):bO n (k:Int) 1 2=some (decide (1≤k∧k≤2)):=by
 rw [cT];congr 1;by_cases h:1≤k∧k≤2
 ·rw [decide_eq_true h,decide_eq_true (by omega)]
 rw [decide_eq_false h,decide_eq_false (by omega)]
theorem q5{n:Nat}(hn:5500000≤n){l:List Affine}(hl:xO l)(d:Int):lN n l d=some (bP l d):=by
 obtain⟨h0,h1⟩:=hl;unfold lN;rw [nR];have hc:=oJ (n:=n) (f:=fun q0=>fH n q0 d) (p:=fun a=> !bH a d) (l:=l) (fun x hx=>z7 hn (h1 x hx) d) (by omega) (by omega);simp only [jn,Option.bind];rw [hc];unfold bP;have e:(l.any fun a=> !bH a d)= !(l.all fun a=>bH a d):=by
  rw [vAQ];simp
 rw [e];cases decide (1≤l.length∧l.length≤2)<;>simp
def zX{α:Type}(p:Nat→α→Bool)(l:List α):Bool:=l.zipIdx.all fun q=>p q.2 q.1
theorem mC{α:Type}{p:Nat→α→Bool}{l:List α}(h: ∀(i:Nat) x,l[i]? =some x→p i x=true):zX p l=true:=
 H2.2 fun q hq=>h q.2 q.1 (vBq.1 hq)
theorem jZ{α:Type}{p:Nat→α→Bool}{l:List α}{i:Nat}{x:α}(h:l[i]? =some x)(hp:p i x=false):zX p l=false:=
 T7.2 ⟨(x,i),vBq.2 h,by rw [hp];simp⟩
theorem zW{α:Type}{p:Nat→α→Bool}{l:List α}(h:zX p l=true){i:Nat}{x:α}(hx:l[i]? =some x):p i x=true:=
 H2.1 h (x,i) (vBq.2 hx)
def dC(nest:List Loop):Bool:=zX (fun i l=>bP l.lo (i:Int)&&bP l.hi (i:Int)) nest&&decide (nest.length≤4)
def SmN(nest:List Loop):Prop:=nest.length≤1100000∧ ∀l∈nest,xO l.lo∧xO l.hi
theorem pK{n:Nat}(hn:5500000≤n){nest:List Loop}(h:SmN nest):jC n nest=some (dC nest):=by
 obtain⟨h0,h1⟩:=h;refine Ev.eq ?_;unfold jC;refine iT (l:=nest) (p:=fun i l=>bP l.lo (i:Int)&&bP l.hi (i:Int)) (by omega) (by omega) (fun again i x hx hgo hno=>?_) (fun again hall=>?_) (fun⟨i,x,hx,hp⟩=>?_)
 ·have hi:=(bR.1 hx).1;obtain⟨m1,m2⟩:=h1 x (cM hx);rw [decide_eq_true (show(i:Int)<(nest.length:Int) by omega)];refine aB (aR hx) (Ev.jn (fun z=>z= !(bP x.lo (i:Int)&&bP x.hi (i:Int))) (fun j hj=>aB (q5 hn m1 _) ?_) fun z hz=>?_)
  ·cases ha:bP x.lo (i:Int) with
   |false=>exact hj _ (by rw [ha];rfl)
   |true=>exact aB (q5 hn m2 _) (hj _ (by rw [ha];rfl))
  subst hz;cases hb:(bP x.lo (i:Int)&&bP x.hi (i:Int)) with
  |true=>show Ev (again _) _;rw [aK (by omega)];exact hgo hb
  |false=>exact Ev.some (hno hb)
 ·rw [decide_eq_false (show¬(nest.length:Int)<(nest.length:Int) by omega)];refine Ev.some ?_;unfold dC;rw [mC hall,vAR];exact decide_eq_decide.2 (by omega)
 unfold dC;rw [jZ hx hp];rfl
theorem pE{n:Nat}(hn:5500000≤n){nest:List Loop}(h:SmN nest):i8 n nest=some (dC nest):=by
 obtain⟨h0,h1⟩:=h;unfold i8;by_cases h4:nest.length≤4
 ·rw [decide_eq_true (show(nest.length:Int)≤4 by omega)];refine Ev.eq ?_;refine iT (l:=nest) (p:=fun i l=>bP l.lo (i:Int)&&bP l.hi (i:Int)) (by omega) (by omega) (fun again i x hx hgo hno=>?_) (fun again hall=>?_) (fun⟨i,x,hx,hp⟩=>?_)
  ·have hi:=(bR.1 hx).1;obtain⟨m1,m2⟩:=h1 x (cM hx);rw [decide_eq_true (show(i:Int)<(nest.length:Int) by omega)];refine Ev.jn (fun z=>z=true) (fun j hj=>cF (hj _ rfl)) fun z hz=>?_;subst hz;refine cF (Ev.jn (fun z=>z= !(bP x.lo (i:Int)&&bP x.hi (i:Int))) (fun j hj=>aB (aR hx) (aB (wT hn m1 _) ?_)) fun z hz=>?_)
   ·cases ha:bP x.lo (i:Int) with
    |false=>exact hj _ (by rw [ha];rfl)
    |true=>exact aB (wT hn m2 _) (hj _ (by rw [ha];rfl))
   subst hz;cases hb:(bP x.lo (i:Int)&&bP x.hi (i:Int)) with
   |true=>show Ev (again _) _;rw [aK (by omega)];exact hgo hb
   |false=>exact Ev.some (hno hb)
  ·rw [decide_eq_false (show¬(nest.length:Int)<(nest.length:Int) by omega)];refine Ev.jn (fun z=>z=false) (fun j hj=>bB (hj _ rfl)) fun z hz=>?_;subst hz;refine Ev.some ?_;unfold dC;rw [mC hall,decide_eq_true h4];rfl
  unfold dC;rw [jZ hx hp];rfl
 obtain⟨k,rfl⟩: ∃k,n=k+1:=⟨n-1,by omega⟩
 rw [decide_eq_false (show¬(nest.length:Int)≤4 by omega)];unfold dC;rw [decide_eq_false h4,Bool.and_false];simp only [aO,jn];cases decide ((0:Int)<(nest.length:Int))<;>rfl
def mx:List Int→Int
 | []=>0
 |x::xs=>xs.foldl max x
def mn:List Int→Int
 | []=>0
 |x::xs=>xs.foldl min x
theorem aGc{l:List Int}(h:l≠[])(x:Int):mx (l++[x])=max (mx l) x:=by
 cases l with
 |nil=>exact absurd rfl h
 |cons a l=>simp [mx,List.foldl_append]
theorem aGd{l:List Int}(h:l≠[])(x:Int):mn (l++[x])=min (mn l) x:=by
 cases l with
 |nil=>exact absurd rfl h
 |cons a l=>simp [mn,List.foldl_append]
theorem aGN: ∀(l:List Int) (a:Int),a≤l.foldl max a
 | [],a=>yO _
 |x::l,a=>Int.le_trans (Int.le_max_left a x) (aGN l (max a x))
theorem aGO: ∀(l:List Int) (a:Int),l.foldl min a≤a
 | [],a=>yO _
 |x::l,a=>Int.le_trans (aGO l (min a x)) (Int.min_le_left a x)
def evs(l:List Affine)(p:List Int):List Int:=l.map fun a=>dS a p
def gP(l:Loop)(p:List Int):Int:=mx (evs l.lo p)
def lZ(l:Loop)(p:List Int):Int:=mn (evs l.hi p)
def jM(k:Nat)(p:List Int):Prop:=p.length=k∧k≤4∧ptB (100*40^k) p
theorem zE{k:Nat}(h:k≤4):(0:Int)≤100*40^k∧(100:Int)*40^k≤1000000000:=by
 match k,h with
 |0,_=>decide
 |1,_=>decide
 |2,_=>decide
 |3,_=>decide
 |4,_=>decide
theorem vH{l:List Affine}{d:Int}(h:bP l d=true):1≤l.length∧l.length≤2∧ ∀a∈l,eM a=true:=by
 simp only [bP,Bool.and_eq_true,decide_eq_true_eq,List.all_eq_true] at h;refine⟨h.2.1,h.2.2,fun a ha=>?_⟩
 have:=h.1 a ha;simp only [bH,Bool.and_eq_true] at this;exact this.1
theorem aEn{a:Affine}(ha:eM a=true){k:Nat}{p:List Int}(hp:jM k p)(hk:k≤3): -(40*(100*40^k))≤dS a p∧dS a p≤40*(100*40^k):=by
 obtain⟨h1,h2,h3⟩:=uN ha;obtain⟨p1,p2,p3⟩:=hp;obtain⟨q1,q2⟩:=zE (k:=k) (by omega);have hq:(100:Int)≤100*40^k:=by
  match k,hk with
  |0,_=>decide
  |1,_=>decide
  |2,_=>decide
  |3,_=>decide
 generalize (100*40^k:Int)=M at*;have h4:=aEW (M:=M) q1 (cs:=a.coefs) (xs:=p) h3 fun x hx=>p3 x hx;have h6:9*M*(p.length:Int)≤9*M*3:=Int.mul_le_mul_of_nonneg_left (by omega) (by omega);simp only [D5] at*;unfold dS;omega
theorem aCw{n:Nat}(hn:5500000≤n){a:Affine}(ha:eM a=true){k:Nat}{p:List Int}(hp:jM k p):eV n a p=some (dS a p):=
 aCv hn ha (by have:=hp.1;have:=hp.2.1;omega) (zE hp.2.1) hp.2.2
theorem aCI{n:Nat}(hn:5500000≤n){a:Affine}(ha:eM a=true){k:Nat}{p:List Int}(hp:jM k p):bQ n a p=some (dS a p):=
 aCH hn ha (by have:=hp.1;have:=hp.2.1;omega) (zE hp.2.1) hp.2.2
theorem iP{l:List Affine}{p:List Int}{i:Nat}{a:Affine}(h:l[i]? =some a):(evs l p)[i]? =some (dS a p):=by unfold evs;rw [List.getElem?_map,h];rfl
theorem yA(l:List Affine)(p:List Int):(evs l p).length=l.length:=vAN ..
theorem aBL{α:Type}{l:List α}{i:Nat}(h:1≤i)(hl:1≤l.length):l.take i≠[]:=by
 intro e
 have:(l.take i).length=0:=by rw [e];rfl
 rw [H1] at this;omega
theorem aBW{l:List Int}{i:Nat}{x:Int}(h:l[i]? =some x)(hi:1≤i):mx (l.take (i+1))=max (mx (l.take i)) x:=by have:=(bR.1 h).1;rw [vAH,h];exact aGc (aBL hi (by omega)) x
theorem aBY{l:List Int}{i:Nat}{x:Int}(h:l[i]? =some x)(hi:1≤i):mn (l.take (i+1))=min (mn (l.take i)) x:=by have:=(bR.1 h).1;rw [vAH,h];exact aGd (aBL hi (by omega)) x
theorem aAL{l:List Int}{x:Int}(h:l[0]? =some x):mx (l.take 1)=x:=by
 cases l with
 |nil=>simp at h
 |cons a l=>simp at h;subst h;rfl
theorem aAM{l:List Int}{x:Int}(h:l[0]? =some x):mn (l.take 1)=x:=by
 cases l with
 |nil=>simp at h
 |cons a l=>simp at h;subst h;rfl
theorem rH{n:Nat}(hn:5500000≤n){l:Loop}{d d':Int}(h1:bP l.lo d=true)(h2:bP l.hi d'=true){k:Nat}{p:List Int}(hp:jM k p):hK n l p=some (gP l p,lZ l p):=by
 obtain⟨a1,a2,a3⟩:=vH h1;obtain⟨b1,b2,b3⟩:=vH h2;have g1:=cU (show 0<l.lo.length by omega);have g2:=cU (show 0<l.hi.length by omega);refine Ev.eq ?_;unfold hK;refine aB (aR (i:=0) g1) (aB (aCw hn (a3 _ (cM g1)) hp) (aB (aR (i:=0) g2) (aB (aCw hn (b3 _ (cM g2)) hp) ?_)));refine Ev.loop (fun x:Int×Int=> ∃i:Nat,x.2=i∧1≤i∧i≤l.lo.length∧x.1=mx ((evs l.lo p).take i)) (fun x=>l.lo.length-x.2.toNat) ?_ n _ ⟨1,rfl,by omega,by omega,(aAL (iP g1)).symm⟩ (by dsimp only;omega);rintro again ⟨x,z⟩ ⟨i,hz,hi1,hi,hx⟩ hr;dsimp only at hz hx⊢;subst hz;refine aI (fun hlt=>?_) fun hge=>?_
 ·have g:=cU (show i<l.lo.length by omega);have e:=aBW (iP (p:=p) g) hi1;refine Ev.jn (fun z=>z=mx ((evs l.lo p).take (i+1))) (fun j hj=>aB (aR g) (aB (aCw hn (a3 _ (cM g)) hp) (aI (fun h=>hj _ ?_) fun h=>hj _ ?_))) fun z hz=>?_
  ·rw [e,←hx];omega
  ·rw [e,←hx];omega
  rw [aK (by omega)];exact hr _ ⟨i+1,by dsimp only;omega,by omega,by omega,hz⟩ (by dsimp only;omega)
 have hie:i=l.lo.length:=by omega
 have hx':x=gP l p:=by rw [hx,hie,←yA l.lo p,D3];rfl
 refine Ev.loop (fun x:Int×Int=> ∃i:Nat,x.2=i∧1≤i∧i≤l.hi.length∧x.1=mn ((evs l.hi p).take i)) (fun x=>l.hi.length-x.2.toNat) ?_ n _ ⟨1,rfl,by omega,by omega,(aAM (iP g2)).symm⟩ (by dsimp only;omega);rintro again2 ⟨y,z⟩ ⟨i,hz,hi1,hi,hy⟩ hr2;dsimp only at hz hy⊢;subst hz;refine aI (fun hlt=>?_) fun hge=>Ev.some ?_
 ·have g:=cU (show i<l.hi.length by omega);have e:=aBY (iP (p:=p) g) hi1;refine Ev.jn (fun z=>z=mn ((evs l.hi p).take (i+1))) (fun j hj=>aB (aR g) (aB (aCw hn (b3 _ (cM g)) hp) (aI (fun h=>hj _ ?_) fun h=>hj _ ?_))) fun z hz=>?_
  ·rw [e,←hy];omega
  ·rw [e,←hy];omega
  rw [aK (by omega)];exact hr2 _ ⟨i+1,by dsimp only;omega,by omega,by omega,hz⟩ (by dsimp only;omega)
 have hie:i=l.hi.length:=by omega
 rw [hx',hy,hie,←yA l.hi p,D3];rfl
theorem J6{n:Nat}(hn:5500000≤n){l:Loop}{d d':Int}(h1:bP l.lo d=true)(h2:bP l.hi d'=true){k:Nat}{p:List Int}(hp:jM k p):jD n l p=some (gP l p,lZ l p):=by
 obtain⟨a1,a2,a3⟩:=vH h1;obtain⟨b1,b2,b3⟩:=vH h2;have g1:=cU (show 0<l.lo.length by omega);have g2:=cU (show 0<l.hi.length by omega);refine Ev.eq ?_;unfold jD;refine aB (aR (i:=0) g1) (aB (aCI hn (a3 _ (cM g1)) hp) (aB (aR (i:=0) g2) (aB (aCI hn (b3 _ (cM g2)) hp) ?_)));refine Ev.loop (fun x:Int×Int=> ∃i:Nat,x.2=i∧i≤l.lo.length∧x.1=mx ((evs l.lo p).take (max i 1))) (fun x=>l.lo.length-x.2.toNat) ?_ n _ ⟨0,rfl,by omega,(aAL (iP g1)).symm⟩ (by dsimp only;omega);rintro again ⟨x,z⟩ ⟨i,hz,hi,hx⟩ hr;dsimp only at hz hx⊢;subst hz;refine aI (fun hlt=>?_) fun hge=>?_
 ·have g:=cU (show i<l.lo.length by omega);refine aB (aR g) (aB (aCI hn (a3 _ (cM g)) hp) ?_);rw [aK (by omega)];refine hr _ ⟨i+1,by dsimp only;omega,by omega,?_⟩ (by dsimp only;omega);dsimp only;rw [show max (i+1) 1=i+1 by omega];cases i with
  |zero=>rw [hx,show max 0 1=1 by rfl,lW,aAL (iP g)];omega
  |succ i=>rw [aBW (iP (p:=p) g) (by omega),hx,show max (i+1) 1=i+1 by omega]
 have hie:i=l.lo.length:=by omega
 have hx':x=gP l p:=by rw [hx,hie,Nat.max_eq_left (by omega),←yA l.lo p,D3];rfl
 refine Ev.loop (fun x:Int×Int=> ∃i:Nat,x.2=i∧i≤l.hi.length∧x.1=mn ((evs l.hi p).take (max i 1))) (fun x=>l.hi.length-x.2.toNat) ?_ n _ ⟨0,rfl,by omega,(aAM (iP g2)).symm⟩ (by dsimp only;omega);rintro again2 ⟨y,z⟩ ⟨i,hz,hi,hy⟩ hr2;dsimp only at hz hy⊢;subst hz;refine aI (fun hlt=>?_) fun hge=>Ev.some ?_
 ·have g:=cU (show i<l.hi.length by omega);refine aB (aR g) (aB (aCI hn (b3 _ (cM g)) hp) ?_);rw [aK (by omega)];refine hr2 _ ⟨i+1,by dsimp only;omega,by omega,?_⟩ (by dsimp only;omega);dsimp only;rw [show max (i+1) 1=i+1 by omega];cases i with
  |zero=>rw [hy,show max 0 1=1 by rfl,lW,aAM (iP g)];omega
  |succ i=>rw [aBY (iP (p:=p) g) (by omega),hy,show max (i+1) 1=i+1 by omega]
 have hie:i=l.hi.length:=by omega
 rw [hx',hy,hie,Nat.max_eq_left (by omega),←yA l.hi p,D3];rfl
theorem tC{l:Loop}{d d':Int}(h1:bP l.lo d=true)(h2:bP l.hi d'=true){k:Nat}{p:List Int}(hp:jM k p)(hk:k≤3){v:Int}(hv:gP l p≤v∧v<lZ l p):jM (k+1) (p++[v]):=by
 obtain⟨a1,a2,a3⟩:=vH h1;obtain⟨b1,b2,b3⟩:=vH h2;have e1: -(40*(100*40^k))≤gP l p:=by
  cases hl:l.lo with
  |nil=>rw [hl] at a1;simp at a1
  |cons a as=>
   have:=(aEn (a3 a (by rw [hl];simp)) hp hk).1;unfold gP evs;rw [hl];exact Int.le_trans this (aGN _ _)
 have e2:lZ l p≤40*(100*40^k):=by
  cases hl:l.hi with
  |nil=>rw [hl] at b1;simp at b1
  |cons a as=>
   have:=(aEn (b3 a (by rw [hl];simp)) hp hk).2;unfold lZ evs;rw [hl];exact Int.le_trans (aGO _ _) this
 obtain⟨p1,p2,p3⟩:=hp;have e3:(100*40^(k+1):Int)=40*(100*40^k):=by rw [Int.pow_succ];omega
 have q:=(zE (k:=k) (by omega)).1;refine⟨by simp [p1],by omega,fun x hx=>?_⟩;rw [e3];rcases D2.1 hx with h|h
 ·have:=p3 x h;simp only [D5] at this⊢;omega
 simp at h;subst h;simp only [D5];omega
def pts:List Loop→List Int→List (List Int)
 | [],p=>[p]
 |l::ls,p=>(iC (gP l p) (lZ l p)).flatMap fun v=>pts ls (p++[v])
def wk:List Loop→List Int→Int
 | [],_=>1
 |l::ls,p=>1+((iC (gP l p) (lZ l p)).map fun v=>wk ls (p++[v])).sum
theorem mL{α:Type}(f:α→Int): ∀(l:List α),(∀x∈l,1≤f x)→(l.length:Int)≤(l.map f).sum
 | [],_=>by simp
 |x::l,h=>by have h1:=mL f l fun y hy=>h y (by simp [hy]);have h2:=h x (by simp);simp only [List.map_cons,List.sum_cons,List.length_cons];omega
theorem M3: ∀(ls:List Loop) (p:List Int),1≤wk ls p
 | [],p=>yO _
 |l::ls,p=>by have:=mL (fun v=>wk ls (p++[v])) (iC (gP l p) (lZ l p)) fun v _=>M3 ls _;simp only [wk];omega
def Fit(nest:List Loop):Prop:=nest.length≤4∧ ∀(i:Nat) l,nest[i]? =some l→bP l.lo (i:Int)=true∧bP l.hi (i:Int)=true
theorem wD{nest:List Loop}(h:dC nest=true):Fit nest:=by
 simp only [dC,Bool.and_eq_true,decide_eq_true_eq] at h;refine⟨h.2,fun i l hl=>?_⟩
 have:=zW h.1 hl;simpa [Bool.and_eq_true] using this
theorem qS{nest:List Loop}{k:Nat}{l:Loop}{ls:List Loop}(h:nest.drop k=l::ls):nest[k]? =some l∧nest.drop (k+1)=ls∧k<nest.length:=by
 have h1:(nest.drop k)[0]? =some l:=by rw [h];rfl
 rw [vAA,vBs] at h1;refine⟨h1,?_,(bR.1 h1).1⟩
 have:(nest.drop k).drop 1=ls:=by rw [h];rfl
 rwa [List.drop_drop] at this
theorem tW{nest:List Loop}{k:Nat}(h:nest.drop k=[])(hk:k≤nest.length):k=nest.length:=by
 have:(nest.drop k).length=0:=by rw [h];rfl
 rw [vBn] at this;omega
theorem jH(p:List Int)(h:p.length≤1100000):app [] p=some p:=by rw [lU (by simp;omega)];rfl
theorem U2(l:List Int)(f:Int→Int)(v:Int):((l++[v]).map f).sum=(l.map f).sum+f v:=by simp
theorem aF2{lo v:Int}(h:lo≤v):((iC lo v).length:Int)=v-lo:=by unfold iC;simp;omega
theorem H5{nest:List Loop}(hf:Fit nest): ∀(ls:List Loop) (n k:Nat) (p:List Int) (most:Int),5500000+ls.length≤n→nest.drop k=ls→k≤nest.length→jM k p→0≤most→most≤1200→
  Ev (s_l2Work n nest p most) (fun r=>(wk ls p≤most→r=wk ls p)∧(most<wk ls p→most<r)∧1≤r∧r≤most+1)
 | [],n,k,p,most,hn,hd,hk,hp,h0,h1=>by
  obtain⟨n,rfl⟩: ∃j,n=j+1:=⟨n-1,by omega⟩
  have hk':=tW hd hk;have hpl:=hp.1;unfold s_l2Work;rw [decide_eq_true (show(p.length:Int)=(nest.length:Int) by omega)];exact Ev.some ⟨fun _=>rfl,fun h=>by simp only [wk] at h;omega,by omega,by omega⟩
 |l::ls,n,k,p,most,hn,hd,hk,hp,h0,h1=>by
  obtain⟨n,rfl⟩: ∃j,n=j+1:=⟨n-1,by omega⟩
  obtain⟨d1,d2,d3⟩:=qS hd;obtain⟨s1,s2⟩:=hf.2 k l d1;have hpl:=hp.1;have hk3:k≤3:=by have:=hf.1;omega
  simp only [List.length_cons] at hn;unfold s_l2Work;rw [decide_eq_false (show¬(p.length:Int)=(nest.length:Int) by omega)];refine bB (aB (x:=l) (by rw [hpl];exact aR d1) (aB (rH (by omega) s1 s2 hp) ?_));let f:Int→Int:=fun v=>wk ls (p++[v]);have hfp: ∀v,1≤f v:=fun v=>M3 _ _;have hW:wk (l::ls) p=1+((iC (gP l p) (lZ l p)).map f).sum:=rfl;refine Ev.loop (fun x:Int×Int=>gP l p≤x.2∧(x.2≤lZ l p∨x.2=gP l p)∧(1+((iC (gP l p) x.2).map f).sum≤most→x.1=1+((iC (gP l p) x.2).map f).sum)∧(most<1+((iC (gP l p) x.2).map f).sum→most<x.1)∧1≤x.1∧x.1≤most+1)
   (fun x=>(most+1-x.1).toNat) ?_ n _ ⟨yO _,.inr rfl,fun _=>by rw [fG (yO _)];rfl,fun h=>by rw [fG (yO _)] at h;simp at h;dsimp only;omega,by dsimp only;omega,by dsimp only;omega⟩ (by dsimp only;omega)
  rintro again ⟨x,v⟩ ⟨i1,i2,i3,i4,i5,i6⟩ hr;dsimp only at i1 i2 i3 i4 i5 i6⊢;refine Ev.jn (fun z=>z=decide (v<lZ l p∧x≤most)) (fun j hj=>aI (fun h=>hj _ ?_) fun h=>hj _ ?_) fun z hz=>?_
  ·by_cases hx:x≤most
   ·rw [decide_eq_true hx,decide_eq_true ⟨h,hx⟩]
   rw [decide_eq_false hx,decide_eq_false fun h=>hx h.2]
  ·rw [decide_eq_false fun h'=>h h'.1]
  subst hz;refine aI (fun⟨hv,hx⟩=>?_) fun hno=>Ev.some ?_
  ·have hsum:x=1+((iC (gP l p) v).map f).sum:=i3 (by apply Int.not_lt.1;intro h;have:=i4 h;omega);have hp':=tC s1 s2 hp hk3 ⟨i1,hv⟩;have e1:wr (most-x)=most-x:=by rw [aK (by omega)]
   rw [e1];refine aB (jH p (by omega)) (aB (lU (by simp;omega)) (gU (H5 hf ls n (k+1) (p++[v]) (most-x) (by omega) d2 (by omega) hp' (by omega) (by omega)) fun r ⟨r1,r2,r3,r4⟩=>?_));have hvb:v<lZ l p:=hv;have hvr: -1000000000≤v∧v≤1000000000:=by
    have h9:=hp'.2.2 v (by simp);have h8:=zE hp'.2.1;simp only [D5] at h9;omega
   rw [aK (n:=v+1) (by omega),aK (n:=x+r) (by omega)];have hs:1+((iC (gP l p) (v+1)).map f).sum=x+f v:=by rw [lI i1,U2,hsum];omega
   refine hr _ ⟨by dsimp only;omega,.inl (by dsimp only;omega),?_,?_,by dsimp only;omega,by dsimp only;omega⟩ (by dsimp only;omega)
   ·dsimp only;rw [hs];intro h
    have:r=f v:=r1 (show f v≤most-x by omega);omega
   dsimp only;rw [hs];intro h
   have:most-x<r:=r2 (show most-x<f v by omega);omega
  have hmono:1+((iC (gP l p) v).map f).sum≤wk (l::ls) p∧(lZ l p≤v→1+((iC (gP l p) v).map f).sum=wk (l::ls) p):=by
   rw [hW];by_cases h:v<lZ l p
   ·refine⟨?_,fun h'=>by omega⟩;rw [qH i1 h,vBf,List.sum_append,List.map_cons,List.sum_cons]
    have:=mL f (iC (v+1) (lZ l p)) fun y _=>hfp y
    have:=hfp v;omega
   have:iC (gP l p) v=iC (gP l p) (lZ l p):=by
    rcases i2 with h2|h2
    ·rw [show v=lZ l p by omega]
    subst h2;rw [fG (yO _),fG (by omega)]
   rw [this];exact⟨yO _,fun _=>rfl⟩
  refine⟨fun h=>?_,fun h=>?_,i5,i6⟩
  ·have hx:=i3 (by omega);rw [hx];apply hmono.2;apply Int.not_lt.1;intro hv;exact hno ⟨hv,by omega⟩
  apply Int.not_le.1;intro hx;have hv:lZ l p≤v:=by apply Int.not_lt.1;intro hv;exact hno ⟨hv,hx⟩
  have:=i4 (by rw [hmono.2 hv];exact h);omega
theorem wS{nest:List Loop}(hf:Fit nest): ∀(ls:List Loop) (n k:Nat) (p:List Int) (out:List (List Int)),5500000+ls.length≤n→nest.drop k=ls→k≤nest.length→jM k p→wk ls p≤1200→out.length≤120→
  Ev (s_l2Points n out nest p) (fun r=>(out.length+(pts ls p).length≤120→r=out++pts ls p)∧(120<out.length+(pts ls p).length→120<r.length))
 | [],n,k,p,out,hn,hd,hk,hp,h0,h1=>by
  obtain⟨n,rfl⟩: ∃j,n=j+1:=⟨n-1,by omega⟩
  have hk':=tW hd hk;have hpl:=hp.1;have hf1:=hf.1;unfold s_l2Points;rw [decide_eq_true (show(p.length:Int)=(nest.length:Int) by omega)];refine cF (aB (jH p (by omega)) (aB (lU (by simp;omega)) (Ev.some ⟨fun _=>rfl,fun h=>by simp [pts] at h ⊢; omega⟩)))
 |l::ls,n,k,p,out,hn,hd,hk,hp,h0,h1=>by
  obtain⟨n,rfl⟩: ∃j,n=j+1:=⟨n-1,by omega⟩
  obtain⟨d1,d2,d3⟩:=qS hd;obtain⟨s1,s2⟩:=hf.2 k l d1;have hpl:=hp.1;have hf1:=hf.1;have hk3:k≤3:=by omega
  simp only [List.length_cons] at hn;unfold s_l2Points;rw [decide_eq_false (show¬(p.length:Int)=(nest.length:Int) by omega)];refine bB (aB (x:=l) (by rw [hpl];exact aR d1) (aB (rH (by omega) s1 s2 hp) ?_));let f:Int→Int:=fun v=>wk ls (p++[v]);have hfp: ∀v,1≤f v:=fun v=>M3 _ _;have hW:wk (l::ls) p=1+((iC (gP l p) (lZ l p)).map f).sum:=rfl;let g:Int→List (List Int):=fun v=>pts ls (p++[v]);have hP:pts (l::ls) p=(iC (gP l p) (lZ l p)).flatMap g:=rfl;have hlen:gP l p≤lZ l p→lZ l p-gP l p≤1199:=fun hle=>by
   have:=mL f (iC (gP l p) (lZ l p)) fun y _=>hfp y
   have:=aF2 hle;omega
  refine Ev.loop (fun x:List (List Int)×Int=>gP l p≤x.2∧(x.2≤lZ l p∨x.2=gP l p)∧(out.length+((iC (gP l p) x.2).flatMap g).length≤120→x.1=out++(iC (gP l p) x.2).flatMap g)∧(120<out.length+((iC (gP l p) x.2).flatMap g).length→120<x.1.length))
   (fun x=>(lZ l p-x.2).toNat) ?_ n _ ⟨yO _,.inr rfl,fun _=>by rw [fG (yO _)];simp,fun h=>by rw [fG (yO _)] at h;simp at h;omega⟩ (by dsimp only;omega)
  rintro again ⟨x,v⟩ ⟨i1,i2,i3,i4⟩ hr;dsimp only at i1 i2 i3 i4⊢;refine Ev.jn (fun z=>z=decide (v<lZ l p∧x.length≤120)) (fun j hj=>aI (fun h=>hj _ ?_) fun h=>hj _ ?_) fun z hz=>?_
  ·by_cases hx:x.length≤120
   ·rw [decide_eq_true (show(x.length:Int)≤120 by omega),decide_eq_true ⟨h,hx⟩]
   rw [decide_eq_false (show¬(x.length:Int)≤120 by omega),decide_eq_false fun h=>hx h.2]
  ·rw [decide_eq_false fun h'=>h h'.1]
  subst hz;refine aI (fun⟨hv,hx⟩=>?_) fun hno=>Ev.some ?_
  ·have hxe:x=out++(iC (gP l p) v).flatMap g:=i3 (by apply Nat.not_lt.1;intro h;have:=i4 h;omega);have hp':=tC s1 s2 hp hk3 ⟨i1,hv⟩;have hwc:f v≤1200:=by
    rw [hW,qH i1 hv,vBf,List.sum_append,List.map_cons,List.sum_cons] at h0
    have:=mL f (iC (v+1) (lZ l p)) fun y _=>hfp y
    have:=mL f (iC (gP l p) v) fun y _=>hfp y;omega
   refine aB (jH p (by omega)) (aB (lU (by simp;omega)) (gU (wS hf ls n (k+1) (p++[v]) x (by omega) d2 (by omega) hp' hwc hx) fun r ⟨r1,r2⟩=>?_));have hvr: -1000000000≤v∧v≤1000000000:=by
    have h9:=hp'.2.2 v (by simp);have h8:=zE hp'.2.1;simp only [D5] at h9;omega
   rw [aK (n:=v+1) (by omega)];have hs:(iC (gP l p) (v+1)).flatMap g=(iC (gP l p) v).flatMap g++g v:=by rw [lI i1,vAY];simp
   refine hr _ ⟨by dsimp only;omega,.inl (by dsimp only;omega),?_,?_⟩ (by dsimp only;omega)
   ·dsimp only;rw [hs];intro h;simp only [List.length_append] at h;have hl:x.length=out.length+((iC (gP l p) v).flatMap g).length:=by rw [hxe,o2]
    rw [r1 (show x.length+(g v).length≤120 by omega),hxe,vBa]
   dsimp only;rw [hs];intro h;simp only [List.length_append] at h;have hl:x.length=out.length+((iC (gP l p) v).flatMap g).length:=by rw [hxe,o2]
   exact r2 (show 120<x.length+(g v).length by omega)
  have hmono:((iC (gP l p) v).flatMap g).length≤(pts (l::ls) p).length∧(lZ l p≤v→(iC (gP l p) v).flatMap g=pts (l::ls) p):=by
   rw [hP];by_cases h:v<lZ l p
   ·refine⟨?_,fun h'=>by omega⟩;rw [qH i1 h,vAY,o2];omega
   have:iC (gP l p) v=iC (gP l p) (lZ l p):=by
    rcases i2 with h2|h2
    ·rw [show v=lZ l p by omega]
    subst h2;rw [fG (yO _),fG (by omega)]
   rw [this];exact⟨jS _,fun _=>rfl⟩
  refine⟨fun h=>?_,fun h=>?_⟩
  ·have hx:=i3 (by omega);rw [hx,hmono.2];apply Int.not_lt.1;intro hv;exact hno ⟨hv,by rw [hx,o2];omega⟩
  apply Nat.not_le.1;intro hx;have hv:lZ l p≤v:=by apply Int.not_lt.1;intro hv;exact hno ⟨hv,hx⟩
  have:=i4 (by rw [hmono.2 hv];exact h);omega
theorem J5{nest:List Loop}(hf:Fit nest): ∀(ls:List Loop) (n k:Nat) (p:List Int) (st:Int) (out:List (List Int)),5500000+ls.length≤n→nest.drop k=ls→k≤nest.length→jM k p→0≤st→st≤1199→out.length≤120→
  Ev (i_walking_walk n ⟨nest,st,out⟩ p) (fun r=>(st+wk ls p≤1200∧out.length+(pts ls p).length≤120→r=(true,⟨nest,st+wk ls p-1,out++pts ls p⟩))∧(¬(st+wk ls p≤1200∧out.length+(pts ls p).length≤120)→r.1=false))
 | [],n,k,p,st,out,hn,hd,hk,hp,h0,h1,h2=>by
  obtain⟨n,rfl⟩: ∃j,n=j+1:=⟨n-1,by omega⟩
  have hk':=tW hd hk;have hpl:=hp.1;have hf1:=hf.1;unfold i_walking_walk;dsimp only;rw [decide_eq_true (show(p.length:Int)=(nest.length:Int) by omega)];have hc:m_ownClone p=some p:=by unfold m_ownClone;rw [if_pos (by omega)]
  refine cF (aB hc (aB (lU (by simp;omega)) (Ev.some ⟨fun h=>?_,fun h=>?_⟩)))
  ·simp only [wk,pts,List.length_singleton] at h⊢;rw [decide_eq_true (by simp;omega),show st+1-1=st by omega]
  simp only [wk,pts,List.length_singleton] at h⊢;exact decide_eq_false (by simp;omega)
 |l::ls,n,k,p,st,out,hn,hd,hk,hp,h0,h1,h2=>by
  obtain⟨n,rfl⟩: ∃j,n=j+1:=⟨n-1,by omega⟩
  obtain⟨d1,d2,d3⟩:=qS hd;obtain⟨s1,s2⟩:=hf.2 k l d1;have hpl:=hp.1;have hf1:=hf.1;have hk3:k≤3:=by omega
  simp only [List.length_cons] at hn;unfold i_walking_walk;dsimp only;rw [decide_eq_false (show¬(p.length:Int)=(nest.length:Int) by omega)];refine bB (aB (x:=l) (by rw [hpl];exact aR d1) (aB (J6 (by omega) s1 s2 hp) ?_));let f:Int→Int:=fun v=>wk ls (p++[v]);have hfp: ∀v,1≤f v:=fun v=>M3 _ _;have hW:wk (l::ls) p=1+((iC (gP l p) (lZ l p)).map f).sum:=rfl;let g:Int→List (List Int):=fun v=>pts ls (p++[v]);have hP:pts (l::ls) p=(iC (gP l p) (lZ l p)).flatMap g:=rfl;refine Ev.loop (fun x:List Loop×Int×List (List Int)×Int=>x.1=nest∧gP l p≤x.2.2.2∧(x.2.2.2≤lZ l p∨x.2.2.2=gP l p)∧x.2.1=st+((iC (gP l p) x.2.2.2).map f).sum∧x.2.2.1=out++(iC (gP l p) x.2.2.2).flatMap g∧0≤x.2.1∧x.2.1≤1199∧x.2.2.1.length≤120)
   (fun x=>(1200-x.2.1).toNat) ?_ n _ ⟨rfl,yO _,.inr rfl,by dsimp only;rw [fG (yO _)];simp,by dsimp only;rw [fG (yO _)];simp,h0,h1,h2⟩ (by dsimp only;omega)
  rintro again ⟨nst,x,o,v⟩ ⟨i0,i1,i2,i3,i4,i5,i6,i7⟩ hr;dsimp only at i0 i1 i2 i3 i4 i5 i6 i7⊢;subst i0;have hol:o.length=out.length+((iC (gP l p) v).flatMap g).length:=by rw [i4,o2]
  refine aI (fun hv=>?_) fun hv=>Ev.some ?_
  ·have hp':=tC s1 s2 hp hk3 ⟨i1,hv⟩;have hrest:wk (l::ls) p≥1+((iC (gP l p) v).map f).sum+f v∧(pts (l::ls) p).length≥((iC (gP l p) v).flatMap g).length+(g v).length:=by
    rw [hW,hP,qH i1 hv,vBf,List.sum_append,List.map_cons,List.sum_cons,vAY,o2,List.flatMap_cons,o2]
    have:=mL f (iC (v+1) (lZ l p)) fun y _=>hfp y;constructor
    ·omega
    omega
   have hvr: -1000000000≤v∧v≤1000000000:=by
    have h9:=hp'.2.2 v (by simp);have h8:=zE hp'.2.1;simp only [D5] at h9;omega
   have e1:wr (x+1)=x+1:=by rw [aK (by omega)]
   have e2:wr (x+1+1)=x+1+1:=by rw [aK (by omega)]
   have e3:wr (v+1)=v+1:=by rw [aK (by omega)]
   rw [e1,e2,e3];refine Ev.jn (fun z:List Loop×Int×List (List Int)×Bool=>(z.2.2.2=false→z.1=nst∧x+f v≤1199∧o.length+(g v).length≤120∧z.2.1=x+f v∧z.2.2.1=o++g v)∧(z.2.2.2=true→ ¬(st+wk (l::ls) p≤1200∧out.length+(pts (l::ls) p).length≤120)))
    (fun j hj=>aI (fun h=>hj _ ⟨fun h'=>(by cases h'),fun _=>?_⟩) fun h=>?_) fun z hz=>?_
   ·have:=hfp v;omega
   ·have hc:m_ownClone p=some p:=by unfold m_ownClone;rw [if_pos (by omega)]
    refine aB hc (aB (lU (by simp;omega)) (gU (J5 hf ls n (k+1) (p++[v]) (x+1) o (by omega) d2 (by omega) hp' (by omega) (by omega) i7) fun r ⟨r1,r2⟩=>?_));by_cases hc:x+1+f v≤1200∧o.length+(g v).length≤120
    ·rw [r1 hc];exact hj _ ⟨fun _=>⟨rfl,by omega,hc.2,show x+1+f v-1=x+f v by omega,rfl⟩,fun h=>(by cases h)⟩
    have hr1:=r2 hc;obtain⟨rb,⟨rn,rs,ro⟩⟩:=r;dsimp only at hr1⊢;subst hr1;exact hj _ ⟨fun h=>(by cases h),fun _=>by omega⟩
   obtain⟨za,zb,zc,zd⟩:=z;obtain⟨z2,z3⟩:=hz;dsimp only at z2 z3⊢;cases zd with
   |true=>exact Ev.some ⟨fun h=>absurd h (z3 rfl),fun _=>rfl⟩
   |false=>
    obtain⟨rfl,y1,y2,y3,y4⟩:=z2 rfl;refine hr _ ⟨rfl,by dsimp only;omega,.inl (by dsimp only;omega),?_,?_,by dsimp only;have:=hfp v;omega,by dsimp only;omega,?_⟩ (by dsimp only;have:=hfp v;omega)
    ·dsimp only;rw [lI i1,U2,y3,i3];omega
    ·dsimp only;rw [y4,i4,lI i1,vAY];simp
    dsimp only;rw [y4,o2];exact y2
  have:iC (gP l p) v=iC (gP l p) (lZ l p):=by
   rcases i2 with h2|h2
   ·rw [show v=lZ l p by omega]
   subst h2;rw [fG (yO _),fG (by omega)]
  rw [this] at i3 i4 hol;rw [←hP] at i4 hol;refine⟨fun h=>?_,fun h=>?_⟩
  ·rw [i4,i3,hW,show st+(1+((iC (gP l p) (lZ l p)).map f).sum)-1=st+((iC (gP l p) (lZ l p)).map f).sum by omega]
  exact absurd ⟨by omega,by omega⟩ h
def NP(nest:List Loop):Option (List (List Int)):=if dC nest=true∧wk nest []≤1200∧(pts nest []).length≤120 then some (pts nest []) else none
def aA8:Option (List (List Int))→List (List Int)×Bool
 |none=>([],false)
 |some l=>(l,true)
theorem pt0:jM 0 []:=⟨rfl,by omega,fun x h=>by cases h⟩
theorem xJ{n:Nat}(hn:6600000≤n){nest:List Loop}(h:SmN nest):kD n nest=some (aA8 (NP nest)):=by
 refine Ev.eq ?_;unfold kD;refine aB (pK (by omega) h) ?_;unfold NP;cases hv:dC nest with
 |false=>exact Ev.some (by simp [aA8])
 |true=>
  have hf:=wD hv;refine gU (J5 hf nest n 0 [] 0 [] (by have:=hf.1;omega) rfl (by omega) pt0 (by omega) (by omega) (by simp)) fun r ⟨r1,r2⟩=>?_;by_cases hc:(0:Int)+wk nest []≤1200∧([]:List (List Int)).length+(pts nest []).length≤120
  ·rw [r1 hc,if_pos ⟨rfl,by omega,by simpa using hc.2⟩];exact Ev.some (by simp [aA8])
  rw [r2 hc,if_neg fun h=>hc ⟨by omega,by simpa using h.2.2⟩];exact Ev.some rfl
theorem xF{n:Nat}(hn:6600000≤n){nest:List Loop}(h:SmN nest):jW n nest=some (aA8 (NP nest)):=by
 refine Ev.eq ?_;unfold jW;refine Ev.jn (fun z=>z= !(dC nest&&decide (wk nest []≤1200))) (fun j hj=>aB (pE (by omega) h) ?_) fun z hz=>?_
 ·cases hv:dC nest with
  |false=>exact hj _ (by rw [hv];rfl)
  |true=>
   have hf:=wD hv;refine gU (H5 hf nest n 0 [] 1200 (by have:=hf.1;omega) rfl (by omega) pt0 (by omega) (by omega)) fun r ⟨r1,r2,r3,r4⟩=>hj _ ?_;rw [hv,vAR];by_cases hw:wk nest []≤1200
   ·rw [decide_eq_true hw,decide_eq_false (by rw [r1 hw];omega)];rfl
   rw [decide_eq_false hw,decide_eq_true (r2 (by omega))];rfl
 subst hz;unfold NP;cases hv:dC nest with
 |false=>exact Ev.some (by simp [aA8])
 |true=>
  have hf:=wD hv;by_cases hw:wk nest []≤1200
  ·rw [decide_eq_true hw];refine gU (wS hf nest n 0 [] [] (by have:=hf.1;omega) rfl (by omega) pt0 hw (by simp)) fun r ⟨r1,r2⟩=>?_;by_cases hl:(pts nest []).length≤120
   ·rw [r1 (by simpa using hl),if_pos ⟨rfl,hw,hl⟩];refine aI (fun h=>absurd h (by simp;omega)) fun _=>Ev.some (by simp [aA8])
   have:=r2 (by simp;omega);rw [if_neg fun h=>hl h.2.2];exact aI (fun _=>Ev.some rfl) fun h=>absurd h (by omega)
  rw [decide_eq_false hw,if_neg fun h=>hw h.2.1];exact Ev.some rfl
def lJ(s:List UInt8):Bool:=match s with
 | [b]=>decide (65≤b.toNat∧b.toNat≤68)
 |_=>false
theorem rQ{s:List UInt8}(h:s.length≠1):lJ s=false:=by
 match s,h with
 | [],_=>rfl
 | [b],h=>exact absurd rfl h
 |_::_::_,_=>rfl
theorem aHx{s:List UInt8}(h:s.length=1): ∃b,s=[b]:=by
 match s,h with
 | [b],_=>exact⟨b,rfl⟩
theorem aDp(b:UInt8)(k:Nat)(hk:k<256):(b=UInt8.ofNat k)↔b.toNat=k:=by
 constructor
 ·intro h;rw [h];simp;omega
 intro h;rw [←h];simp
theorem E9(b:UInt8):Lib.contains [65,66,67,68] [b]=decide (65≤b.toNat∧b.toNat≤68):=by
 have e1:(b=65)↔b.toNat=65:=aDp b 65 (by omega);have e2:(b=66)↔b.toNat=66:=aDp b 66 (by omega);have e3:(b=67)↔b.toNat=67:=aDp b 67 (by omega);have e4:(b=68)↔b.toNat=68:=aDp b 68 (by omega);by_cases h1:b=65
 ·subst h1;decide
 by_cases h2:b=66
 ·subst h2;decide
 by_cases h3:b=67
 ·subst h3;decide
 by_cases h4:b=68
 ·subst h4;decide
 rw [e1] at h1;rw [e2] at h2;rw [e3] at h3;rw [e4] at h4;rw [decide_eq_false (by omega)];rw [←e1] at h1;rw [←e2] at h2;rw [←e3] at h3;rw [←e4] at h4;simp [Lib.contains,Lib.index,h1,h2,h3,h4]
theorem tR(n:Nat)(s:List UInt8):m6 n s=some (lJ s):=by
 unfold m6;by_cases h:s.length=1
 ·obtain⟨b,rfl⟩:=aHx h;simp only [jn,m_contains];rw [if_pos (by simp),E9];rfl
 rw [decide_eq_false (show¬(s.length:Int)=1 by omega),rQ h];rfl
theorem zP(b:UInt8):Op.bytesLess [b] [65]=decide (b.toNat<65):=by simp [Op.bytesLess,UInt8.lt_iff_toNat_lt]
theorem zO(b:UInt8):(Op.bytesLess [b] [68]||[b]==[68])=decide (b.toNat≤68):=by
 have e:(b=68)↔b.toNat=68:=aDp b 68 (by omega);by_cases h:b=68
 ·subst h;decide
 have h':b.toNat≠68:=fun e'=>h (e.2 e')
 have:([b]==[(68:UInt8)])=false:=by simp [h]
 rw [this,Bool.or_false];simp only [Op.bytesLess,Bool.and_false,Bool.or_false,UInt8.lt_iff_toNat_lt];apply decide_eq_decide.2;show b.toNat<68↔_;omega
def gE(a:Access)(d:Int):Bool:=a.subs.all (fun x=>bH x d)&&(lJ a.array&&decide (1≤a.subs.length∧a.subs.length≤2))
theorem aCJ{n:Nat}(hn:5500000≤n){a:Affine}(ha:SmA a)(d:Int):gR n a d=some (!bH a d):=z7 hn ha d
theorem q6{n:Nat}(hn:5500000≤n){a:Access}(ha:xO a.subs)(d:Int):lO n a d=some (gE a d):=by
 obtain⟨h0,h1⟩:=ha;unfold lO;rw [tR,nR];have hc:=oJ (n:=n) (f:=fun q0=>gR n q0 d) (p:=fun a=> !bH a d) (l:=a.subs) (fun x hx=>aCJ hn (h1 x hx) d) (by omega) (by omega);simp only [jn,Option.bind];rw [hc];unfold gE;have e:(a.subs.any fun a=> !bH a d)= !(a.subs.all fun a=>bH a d):=by
  rw [vAQ];simp
 rw [e];cases lJ a.array<;>cases decide (1≤a.subs.length∧a.subs.length≤2)<;>simp
theorem qY{n:Nat}(hn:5500000≤n){a:Access}(ha:xO a.subs)(d:Int):lG n a d=some (gE a d):=by
 obtain⟨h0,h1⟩:=ha;refine Ev.eq ?_;unfold lG;refine iT (l:=a.subs) (p:=fun _ a=>bH a d) (by omega) (by omega) (fun again i x hx hgo hno=>?_) (fun again hall=>?_) (fun⟨i,x,hx,hp⟩=>?_)
 ·have hi:=(bR.1 hx).1;have hm:=h1 x (cM hx);rw [decide_eq_true (show(i:Int)<(a.subs.length:Int) by omega)];refine cF (Ev.jn (fun z=>z= !bH x d) (fun j hj=>aB (aR hx) (aB (iB hn x hm) ?_)) fun z hz=>?_)
  ·cases ha:eM x with
   |false=>exact hj _ (by unfold bH;rw [ha];rfl)
   |true=>exact aB (rK hn hm) (hj _ (by unfold bH;rw [ha,ltd];simp))
  subst hz;cases hb:bH x d with
  |true=>show Ev (again _) _;rw [aK (by omega)];exact hgo hb
  |false=>exact Ev.some (hno hb)
 ·rw [decide_eq_false (show¬(a.subs.length:Int)<(a.subs.length:Int) by omega)];have e:a.subs.all (fun a=>bH a d)=true:=H2.2 fun c hc=>by obtain⟨i,hi⟩:=vAz hc;exact hall i c hi
  unfold gE;rw [e,vAR];refine bB (Ev.jn (fun z=>z=(lJ a.array&&decide (1≤a.subs.length∧a.subs.length≤2))) (fun j hj=>?_) fun z hz=>Ev.some hz);by_cases h:a.array.length=1
  ·rw [decide_eq_true (show(a.array.length:Int)=1 by omega)];obtain⟨b,hb⟩:=aHx h;rw [hb] at hj⊢;rw [zP,zO];show Ev (bif _ then _ else _) _;simp only [lJ] at hj⊢;by_cases g1:b.toNat<65
   ·rw [decide_eq_true g1];exact hj _ (by rw [decide_eq_false (show¬(65≤b.toNat∧b.toNat≤68) by omega)];rfl)
   rw [decide_eq_false g1];by_cases g2:b.toNat≤68
   ·rw [decide_eq_true g2];rw [decide_eq_true (show 65≤b.toNat∧b.toNat≤68 by omega)] at hj⊢;refine aI (fun h=>hj _ ?_) fun h=>hj _ ?_
    ·by_cases h2:a.subs.length≤2
     ·rw [decide_eq_true (show(a.subs.length:Int)≤2 by omega),decide_eq_true (by omega)];rfl
     rw [decide_eq_false (show¬(a.subs.length:Int)≤2 by omega),decide_eq_false (by omega)];rfl
    rw [decide_eq_false (by omega)];rfl
   rw [decide_eq_false g2];exact hj _ (by rw [decide_eq_false (show¬(65≤b.toNat∧b.toNat≤68) by omega)];rfl)
  rw [decide_eq_false (show¬(a.array.length:Int)=1 by omega)];exact hj _ (by rw [rQ h];rfl)
 unfold gE;rw [T7.2 ⟨x,cM hx,by rw [hp];simp⟩];rfl
def jA(a:Affine):Bool:=decide (a.coefs.length=0)&&decide (a.const=0)
def oG(a:Access):Bool:=decide (a.array=[])&&decide (a.subs.length=0)
theorem aGh(k:Nat):decide ((k:Int)=0)=decide (k=0):=decide_eq_decide.2 (by omega)
theorem E5(n:Nat)(a:Affine):lL n a=some (jA a):=by unfold lL jA;rw [aGh];cases decide (a.coefs.length=0)<;>rfl
theorem U5(n:Nat)(a:Affine):mV n a=some (jA a):=by unfold mV jA;rw [aGh];cases decide (a.coefs.length=0)<;>rfl
theorem E6(n:Nat)(a:Access):f9 n a=some (oG a):=by unfold f9 oG;rw [aGh];cases decide (a.array=[])<;>rfl
theorem N4(n:Nat)(a:Access):kO n a=some (oG a):=by unfold kO oG;rw [aGh];cases decide (a.array=[])<;>rfl
def fO(e:Expr)(d:Int):Bool:=
 if e.kind=2 then decide (e.num=0)&&(oG e.read&&bH e.index d)
 else if e.kind=3 then decide (e.num=0)&&(jA e.index&&gE e.read d)
 else if e.kind=1 then decide (0≤e.num∧e.num≤99)&&(jA e.index&&oG e.read)
 else decide (e.num=0)&&(jA e.index&&oG e.read)
def eJ(k:Int):Int:=if k=1∨k=2∨k=3 then 0 else if k=4∨k=5∨k=6 then 2 else-1
theorem U6(n:Nat)(k:Int):sX n k=some (eJ k):=by
 unfold sX eJ;by_cases h1:k=1
 ·subst h1;rfl
 by_cases h2:k=2
 ·subst h2;rfl
 by_cases h3:k=3
 ·subst h3;rfl
 by_cases h4:k=4
 ·subst h4;rfl
 by_cases h5:k=5
 ·subst h5;rfl
 by_cases h6:k=6
 ·subst h6;rfl
 simp [jn,h1,h2,h3,h4,h5,h6]
theorem aAB{n:Nat}(hn:5500000≤n){e:Expr}(h1:SmA e.index)(h2:xO e.read.subs)(d:Int):xT n e d=some (fO e d):=by
 unfold xT fO;rw [N4,U5,iB hn _ h1,rK hn h1,qY hn h2];by_cases k2:e.kind=2
 ·rw [if_pos k2,decide_eq_true k2];simp only [jn,Option.bind,cond_true,bH];cases decide (e.num=0)<;>cases oG e.read<;>cases eM e.index<;>simp
 rw [if_neg k2,decide_eq_false k2];by_cases k3:e.kind=3
 ·rw [if_pos k3,decide_eq_true k3];simp only [jn,Option.bind,cond_true,cond_false];cases decide (e.num=0)<;>cases jA e.index<;>simp
 rw [if_neg k3,decide_eq_false k3];by_cases k1:e.kind=1
 ·rw [if_pos k1,decide_eq_true k1];simp only [jn,Option.bind,cond_true,cond_false];by_cases g1:0≤e.num<;>by_cases g2:e.num≤99<;>cases jA e.index<;>simp [g1,g2]
 rw [if_neg k1,decide_eq_false k1];simp only [jn,Option.bind,cond_false];cases decide (e.num=0)<;>cases jA e.index<;>simp
end Go.Lift
