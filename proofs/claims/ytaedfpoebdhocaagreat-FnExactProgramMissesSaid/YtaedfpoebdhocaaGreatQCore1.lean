/- Plain facts on sums of products, on ranges, on the points of a nest. -/
import Derived.Test.YtaedfpoebdhocaaGreatQLawDraw
set_option maxRecDepth 110000000
set_option linter.unusedVariables false
namespace Go.Lift
open Go
def T4:List Int→List Int→Int
 |c::cs,x::xs=>c*x+T4 cs xs
 |_,_=>0
def yN(m:Int)(x:Int):Prop:= -m≤x∧x≤m
theorem aC1{a b c x:Int}(ha:0≤a)(hb:0≤b)(h1:yN a c)(h2:yN b x):yN (a*b) (c*x):=by
 obtain⟨p1,p2⟩:=h1;obtain⟨q1,q2⟩:=h2;constructor
 ·have h:=vBe (show 0≤a+c by omega) (show 0≤b+x by omega);have k:=vBe (show 0≤a-c by omega) (show 0≤b-x by omega);have e1:(a+c)*(b+x)=a*b+a*x+c*b+c*x:=by rw [Int.add_mul,Int.mul_add,Int.mul_add];omega
  have e2:(a-c)*(b-x)=a*b-a*x-c*b+c*x:=by rw [Int.sub_mul,Int.mul_sub,Int.mul_sub];omega
  rw [e1] at h;rw [e2] at k;omega
 have h:=vBe (show 0≤a+c by omega) (show 0≤b-x by omega);have k:=vBe (show 0≤a-c by omega) (show 0≤b+x by omega);have e1:(a+c)*(b-x)=a*b-a*x+c*b-c*x:=by rw [Int.add_mul,Int.mul_sub,Int.mul_sub];omega
 have e2:(a-c)*(b+x)=a*b+a*x-c*b-c*x:=by rw [Int.sub_mul,Int.mul_add,Int.mul_add];omega
 rw [e1] at h;rw [e2] at k;omega
theorem H7(cs:List Int):T4 cs []=0:=by cases cs<;>rfl
theorem P0: ∀{cs xs:List Int} {c x:Int},cs[xs.length]? =some c→T4 cs (xs++[x])=T4 cs xs+c*x
 | [],xs,c,x,h=>by simp at h
 |d::cs,[],c,x,h=>by simp at h;subst h;simp [T4,H7]
 |d::cs,y::xs,c,x,h=>by
  have h:cs[xs.length]? =some c:=by simpa using h
  simp only [List.cons_append,T4];rw [P0 h];omega
theorem O9{cs xs:List Int}{i:Nat}{c x:Int}(hc:cs[i]? =some c)(hx:xs[i]? =some x):T4 cs (xs.take (i+1))=T4 cs (xs.take i)+c*x:=by have hi:=(bP.1 hx).1;rw [K1,hx];exact P0 (by simpa [Nat.min_eq_left (Nat.le_of_lt hi)] using hc)
theorem aDS{M:Int}(hM:0≤M): ∀{cs xs:List Int},(∀c∈cs,yN 9 c)→(∀x∈xs,yN M x)→yN (9*M*xs.length) (T4 cs xs)
 | [],xs,_,_=>by
  have:0≤9*M*(xs.length:Int):=vBe (by omega) (by omega);simp only [T4,yN];omega
 |d::cs,[],_,_=>by simp [T4,yN]
 |d::cs,y::xs,hc,hx=>by
  have h1:=aDS hM (cs:=cs) (xs:=xs) (fun c h=>hc c (by simp [h])) fun x h=>hx x (by simp [h]);have h2:=aC1 (by omega) hM (hc d (by simp)) (hx y (by simp));have e:9*M*((y::xs).length:Int)=9*M*(xs.length:Int)+9*M:=by simp [Int.mul_add]
  rw [e];simp only [T4,yN] at*;omega
def gH(lo hi:Int):List Int:=(List.range (hi-lo).toNat).map (fun(i:Nat)=>lo+(i:Int))
theorem aE1{lo hi v:Int}:v∈gH lo hi↔lo≤v∧v<hi:=by
 simp only [gH,List.mem_map,List.mem_range];constructor
 ·rintro⟨i,hi,rfl⟩;omega
 intro h;exact⟨(v-lo).toNat,by omega,by omega⟩
theorem eM{lo hi:Int}(h:hi≤lo):gH lo hi=[]:=by unfold gH;rw [show(hi-lo).toNat=0 by omega];rfl
theorem jH{lo hi:Int}(h:lo≤hi):gH lo (hi+1)=gH lo hi++[hi]:=by unfold gH;rw [show(hi+1-lo).toNat=(hi-lo).toNat+1 by omega,List.range_succ,vBb];simp;omega
theorem nU{lo v hi:Int}(h1:lo≤v)(h2:v<hi):gH lo hi=gH lo v++v::gH (v+1) hi:=by
 obtain⟨k,hk⟩: ∃k:Nat,hi=v+1+k:=⟨(hi-v-1).toNat,by omega⟩
 subst hk;clear h2;induction k with
 |zero=>
  rw [show v+1+((0:Nat):Int)=v+1 by omega,jH h1,eM (v2 _)]
 |succ k ih=>
  rw [show v+1+((k+1:Nat):Int)=v+1+(k:Int)+1 by omega,jH (by omega),ih,jH (by omega)];simp
theorem vT{α:Type}{f:α→Option Bool}{p:α→Bool}{l:List α}(hf: ∀x∈l,f x=some (p x)){n:Nat}(hl:l.length<n)(hl2:l.length≤500000000):
  ∃r:Int,aH (fun again2 (x1:Int)=>bif decide (x1<(l.length:Int)) then(Option.bind (ix l x1) fun x3=>Option.bind (f x3) fun x4=>bif x4 then(some x1) else(again2 (wr (x1+1)))) else(some (-1))) n 0=some r∧decide (0≤r)=l.any p:=by
 suffices h:Ev (aH (fun again2 (x1:Int)=>bif decide (x1<(l.length:Int)) then(Option.bind (ix l x1) fun x3=>Option.bind (f x3) fun x4=>bif x4 then(some x1) else(again2 (wr (x1+1)))) else(some (-1))) n 0) (fun r=>decide (0≤r)=l.any p) by exact h
 refine Ev.loop (fun x:Int=>0≤x∧x≤l.length∧(l.take x.toNat).any p=false) (fun x:Int=>l.length-x.toNat) ?_ n 0 ⟨by omega,by omega,by simp⟩ (by simp;omega);rintro again x ⟨h0,h1,h2⟩ hr;refine aF (fun hlt=>?_) fun hge=>?_
 ·obtain⟨y,hy,hy2⟩:=aHo h0 hlt;have hm:=cK hy2;refine aA hy (aA (hf y hm) (Ev.cond (fun ht=>Ev.some ?_) fun hfl=>?_))
  ·rw [show l.any p=true from vBo.2 ⟨y,hm,ht⟩];simp [h0]
  rw [aM (by omega)];refine hr _ ⟨by omega,by omega,?_⟩ (by omega);rw [show(x+1).toNat=x.toNat+1 by omega,K1,hy2];simp [h2,hfl]
 refine Ev.some ?_;have hx:x.toNat=l.length:=by omega
 rw [hx,pM] at h2;rw [h2];simp
theorem mF{f:Int→Option Bool}{p:Int→Bool}{l:List Int}(hf: ∀x∈l,f x=some (p x)){n:Nat}(hl:l.length<n)(hl2:l.length≤500000000):bC n l f=some (l.any p):=by obtain⟨r,h1,h2⟩:=vT hf hl hl2;unfold bC iG;rw [h1,←h2];rfl
theorem mO{f:Affine→Option Bool}{p:Affine→Bool}{l:List Affine}(hf: ∀x∈l,f x=some (p x)){n:Nat}(hl:l.length<n)(hl2:l.length≤500000000):bY n l f=some (l.any p):=by obtain⟨r,h1,h2⟩:=vT hf hl hl2;unfold bY fJ;rw [h1,←h2];rfl
theorem zE{f:Stmt→Option Bool}{p:Stmt→Bool}{l:List Stmt}(hf: ∀x∈l,f x=some (p x)){n:Nat}(hl:l.length<n)(hl2:l.length≤500000000):dF n l f=some (l.any p):=by obtain⟨r,h1,h2⟩:=vT hf hl hl2;unfold dF gL;rw [h1,←h2];rfl
theorem u5{f:Access→Option Bool}{p:Access→Bool}{l:List Access}(hf: ∀x∈l,f x=some (p x)){n:Nat}(hl:l.length<n)(hl2:l.length≤500000000):cR n l f=some (l.any p):=by obtain⟨r,h1,h2⟩:=vT hf hl hl2;unfold cR fK;rw [h1,←h2];rfl
theorem iP{α:Type}{l:List α}{p:Nat→α→Bool}{Q:Bool→Prop}{body:(Int→Option Bool)→Int→Option Bool}{n:Nat}(hl:l.length<n)(hl2:l.length≤500000000)
  (hstep: ∀again (i:Nat) x,l[i]? =some x→(p i x=true→Ev (again ((i:Int)+1)) Q)→(p i x=false→Q false)→Ev (body again (i:Int)) Q)
  (hend: ∀again,(∀(i:Nat) x,l[i]? =some x→p i x=true)→Ev (body again (l.length:Int)) Q) (hbad:(∃(i:Nat) (x:α),l[i]? =some x∧p i x=false)→Q false):Ev (aH body n 0) Q:=by
 refine Ev.loop (fun x:Int=> ∃i:Nat,x=i∧i≤l.length∧ ∀(j:Nat) y,j<i→l[j]? =some y→p j y=true) (fun x:Int=>l.length-x.toNat) ?_ n 0 ⟨0,rfl,by omega,fun j y h=>by omega⟩ (by simp;omega);rintro again x ⟨i,rfl,hi,ha⟩ hr;by_cases hlt:i<l.length
 ·have hx:=cE hlt;refine hstep again i _ hx (fun hp=>hr _ ⟨i+1,by omega,by omega,fun j y hj hy=>?_⟩ (by omega)) fun hp=>hbad ⟨i,_,hx,hp⟩;by_cases hji:j=i
  ·subst hji;rw [hx] at hy;cases hy;exact hp
  exact ha j y (by omega) hy
 have hil:i=l.length:=by omega
 subst hil;exact hend again fun j y hy=>ha j y (bP.1 hy).1 hy
def d7(a:Affine):Bool:=decide (a.coefs.length=4)&&(decide (-99≤a.const∧a.const≤99)&&a.coefs.all fun c=>decide (-9≤c∧c≤9))
theorem r7{a:Affine}(h:d7 a=true):a.coefs.length=4∧yN 99 a.const∧ ∀c∈a.coefs,yN 9 c:=by simp only [d7,Bool.and_eq_true,decide_eq_true_eq,List.all_eq_true] at h;exact⟨h.1,h.2.1,h.2.2⟩
theorem dW(n:Nat)(x a b:Int):bT n x a b=some (decide (a≤x∧x≤b)):=by unfold bT;by_cases h1:a≤x<;>by_cases h2:x≤b<;>simp [jn,h1,h2]
theorem lG{n:Nat}(hn:5500000≤n)(a:Affine)(ha:a.coefs.length≤1100000):dZ n a=some (d7 a):=by
 have hf: ∀x∈a.coefs,dT n x=some (!decide (-9≤x∧x≤9)):=fun x _=>by unfold dT;rw [dW];rfl
 have hc:=mF (n:=n) hf (by omega) (by omega);unfold dZ tK;rw [dW];simp only [jn,Option.bind];rw [hc];unfold d7;have e:(a.coefs.any fun x=> !decide (-9≤x∧x≤9))= !(a.coefs.all fun c=>decide (-9≤c∧c≤9)):=by
  rw [vAT];simp
 rw [e];by_cases h1:a.coefs.length=4
 ·rw [decide_eq_true (show(a.coefs.length:Int)=4 by omega),decide_eq_true h1];generalize decide (-99≤a.const∧a.const≤99)=b;cases b<;>simp
 rw [decide_eq_false (show¬(a.coefs.length:Int)=4 by omega),decide_eq_false h1];rfl
theorem m6(n:Nat)(x m:Int)(hm:0≤m∧m≤1000000000):gF n x m=some (decide (-m≤x∧x≤m)):=by
 unfold gF;rw [aM (by omega)];by_cases h1: -m≤x<;>by_cases h2:x≤m
 ·simp [jn,h1,h2]
 ·simp [jn,h1,h2]
 ·simp [jn,h1,h2]
 simp [jn,h1,h2]
theorem gG{n:Nat}(hn:5500000≤n)(a:Affine)(ha:a.coefs.length≤1100000):dX n a=some (d7 a):=by
 refine Ev.eq ?_;unfold dX;refine iP (l:=a.coefs) (p:=fun _ c=>decide (-9≤c∧c≤9)) (by omega) (by omega) (fun again i x hx hgo hno=>?_) (fun again hall=>?_) (fun⟨i,x,hx,hp⟩=>?_)
 ·rw [decide_eq_true (show(i:Int)<(a.coefs.length:Int) by have:=(bP.1 hx).1;omega)];refine aA (aI hx) (aA (m6 n x 9 (by omega)) ?_);have hi:=(bP.1 hx).1;cases hp:decide (-9≤x∧x≤9) with
  |true=>show Ev (again _) _;rw [aM (by omega)];exact hgo hp
  |false=>exact Ev.some (hno hp)
 ·rw [decide_eq_false (show¬(a.coefs.length:Int)<(a.coefs.length:Int) by omega)];have e:a.coefs.all (fun c=>decide (-9≤c∧c≤9))=true:=K3.2 fun c hc=>by obtain⟨i,hi⟩:=vAz hc;exact hall i c hi
  refine Ev.cond (fun h=>(by cases h)) fun _=>?_;unfold d7;rw [e];refine Ev.jn (fun z:Bool=>z=(decide (a.coefs.length=4)&&(decide (-99≤a.const∧a.const≤99)&&true))) (fun j hj=>?_) fun z hz=>Ev.some hz;refine aF (fun h=>aA (m6 n a.const 99 (by omega)) (hj _ ?_)) fun h=>hj _ ?_
  ·rw [decide_eq_true (show a.coefs.length=4 by omega)];simp
  rw [decide_eq_false (show¬a.coefs.length=4 by omega)];rfl
 unfold d7;have e:a.coefs.all (fun c=>decide (-9≤c∧c≤9))=false:=T3.2 ⟨x,cK hx,by rw [hp];simp⟩;rw [e];simp
def dK(a:Affine)(p:List Int):Int:=a.const+T4 a.coefs p
def ptB(M:Int)(p:List Int):Prop:= ∀x∈p,yN M x
theorem n7{a:Affine}(ha:d7 a=true){p:List Int}(hp:p.length≤4){M:Int}(hM:0≤M∧M≤1000000000)(hB:ptB M p)(i:Nat)(hi:i≤p.length):yN 1000000000000 (a.const+T4 a.coefs (p.take i)):=by
 obtain⟨h1,h2,h3⟩:=r7 ha;have h4:=aDS (M:=M) hM.1 (cs:=a.coefs) (xs:=p.take i) h3 fun x hx=>hB x (L6 hx);have h5:(p.take i).length≤4:=by simp;omega
 have h6:9*M*((p.take i).length:Int)≤9*M*4:=Int.mul_le_mul_of_nonneg_left (by omega) (by omega);simp only [yN] at*;omega
theorem aBH{n:Nat}(hn:5500000≤n){a:Affine}(ha:d7 a=true){p:List Int}(hp:p.length≤4){M:Int}(hM:0≤M∧M≤1000000000)(hB:ptB M p):bQ n a p=some (dK a p):=by
 obtain⟨h1,h2,h3⟩:=r7 ha;refine Ev.eq ?_;unfold bQ;refine Ev.loop (fun x:Int×Int=> ∃i:Nat,x.2=i∧i≤p.length∧x.1=a.const+T4 a.coefs (p.take i)) (fun x=>p.length-x.2.toNat) ?_ n _ ⟨0,rfl,by omega,by simp [H7]⟩ (by simp;omega);rintro again ⟨x,k⟩ ⟨i,hk,hi,hx⟩ hr;dsimp only at hk hx⊢;subst hk;refine aF (fun hlt=>?_) fun hge=>Ev.some ?_
 ·have hlt:i<p.length:=by omega
  have hp2:=cE hlt;have hc2:=cE (show i<a.coefs.length by omega);have hd:=O9 hc2 hp2;have e1:=n7 ha hp hM hB i hi;have e2:=n7 ha hp hM hB (i+1) (by omega);rw [hd] at e2;have e3:=aC1 (by omega) hM.1 (h3 _ (cK hc2)) (hB _ (cK hp2));refine aA (aI hp2) (aA (aI hc2) ?_);simp only [yN] at e1 e2 e3;rw [aM (n:=a.coefs[i]*p[i]) (by omega),aM (by omega),aM (by omega)];refine hr _ ⟨i+1,by dsimp only;omega,by omega,?_⟩ (by dsimp only;omega);dsimp only;rw [hd,hx];omega
 have:i=p.length:=by omega
 rw [hx,this,pM];rfl
theorem aBq{n:Nat}(hn:5500000≤n){a:Affine}(ha:d7 a=true){p:List Int}(hp:p.length≤4){M:Int}(hM:0≤M∧M≤1000000000)(hB:ptB M p):eX n a p=some (dK a p):=by
 obtain⟨h1,h2,h3⟩:=r7 ha;refine Ev.eq ?_;unfold eX;refine Ev.loop (fun x:Int×Int=> ∃i:Nat,x.2=i∧i≤p.length∧x.1=a.const+T4 a.coefs (p.take i)) (fun x=>p.length-x.2.toNat) ?_ n _ ⟨0,rfl,by omega,by simp [H7]⟩ (by simp;omega);rintro again ⟨x,k⟩ ⟨i,hk,hi,hx⟩ hr;dsimp only at hk hx⊢;subst hk;refine Ev.jn (fun z=>z=decide (i<p.length)) (fun j hj=>aF (fun h=>hj _ ?_) fun h=>hj _ ?_) fun z hz=>?_
 ·rw [decide_eq_true (show i<p.length by omega),decide_eq_true (show(i:Int)<(a.coefs.length:Int) by omega)]
 ·rw [decide_eq_false (show¬i<p.length by omega)]
 subst hz;refine aF (fun hlt=>?_) fun hge=>Ev.some ?_
 ·have hp2:=cE hlt;have hc2:=cE (show i<a.coefs.length by omega);have hd:=O9 hc2 hp2;have e1:=n7 ha hp hM hB i hi;have e2:=n7 ha hp hM hB (i+1) (by omega);rw [hd] at e2;have e3:=aC1 (by omega) hM.1 (h3 _ (cK hc2)) (hB _ (cK hp2));refine aA (aI hc2) (aA (aI hp2) ?_);simp only [yN] at e1 e2 e3;rw [aM (n:=a.coefs[i]*p[i]) (by omega),aM (by omega),aM (by omega)];refine hr _ ⟨i+1,by dsimp only;omega,by omega,?_⟩ (by dsimp only;omega);dsimp only;rw [hd,hx];omega
 have:i=p.length:=by omega
 rw [hx,this,pM];rfl
theorem cQ{R:Type}{Q:R→Prop}{A B:Option R}(h:Ev A Q):Ev (bif true then A else B) Q:=h
theorem bE{R:Type}{Q:R→Prop}{A B:Option R}(h:Ev B Q):Ev (bif false then A else B) Q:=h
def eG:List Int→Nat
 | []=>0
 |c::cs=>if eG cs=0 then(if c=0 then 0 else 1) else eG cs+1
theorem uK: ∀(l:List Int) (c:Int),eG (l++[c])=if c=0 then eG l else l.length+1
 | [],c=>by simp [eG]
 |d::l,c=>by
  have ih:=uK l c;simp only [List.cons_append,eG,ih];by_cases hc:c=0
  ·simp [hc]
  simp [hc]
theorem uJ{l:List Int}{i:Nat}{c:Int}(h:l[i]? =some c):eG (l.take (i+1))=if c=0 then eG (l.take i) else i+1:=by have hi:=(bP.1 h).1;rw [K1,h];show eG (l.take i++[c])=_;rw [uK,nQ,vBz (Nat.le_of_lt hi)]
def SmA(a:Affine):Prop:=a.coefs.length≤1100000
def u7(l:List Affine):Prop:=l.length≤1100000∧ ∀a∈l,SmA a
theorem o4{n:Nat}(hn:5500000≤n){a:Affine}(ha:SmA a):iU n a=some (eG a.coefs:Int):=by
 have ha:a.coefs.length≤1100000:=ha;refine Ev.eq ?_;unfold iU;refine Ev.loop (fun x:Int×Int=> ∃i:Nat,x.2=i∧i≤a.coefs.length∧x.1=(eG (a.coefs.take i):Int)) (fun x=>a.coefs.length-x.2.toNat) ?_ n _ ⟨0,rfl,by omega,by simp [eG]⟩ (by simp;omega);rintro again ⟨x,k⟩ ⟨i,hk,hi,hx⟩ hr;dsimp only at hk hx⊢;subst hk;refine aF (fun hlt=>?_) fun hge=>Ev.some ?_
 ·have hlt:i<a.coefs.length:=by omega
  have hc:=cE hlt;have hd:=uJ hc;refine Ev.jn (fun z:Int=>z=(eG (a.coefs.take (i+1)):Int)) (fun j hj=>aA (aI hc) (d8 (fun h0=>hj _ ?_) fun h0=>hj _ ?_)) fun z hz=>?_
  ·rw [hd,if_neg h0,aM (by omega)];omega
  ·rw [hd,if_pos h0,hx]
  rw [aM (by omega)];exact hr _ ⟨i+1,by dsimp only;omega,by omega,hz⟩ (by dsimp only;omega)
 have:i=a.coefs.length:=by omega
 rw [hx,this,pM]
theorem xD{n:Nat}(hn:5500000≤n){a:Affine}(ha:SmA a):dJ n a=some (eG a.coefs:Int):=by
 have ha:a.coefs.length≤1100000:=ha;refine Ev.eq ?_;unfold dJ;refine Ev.loop (fun x:Int=> ∃i:Nat,x=i∧i≤a.coefs.length∧eG a.coefs=eG (a.coefs.take i)) (fun x=>x.toNat) ?_ n _ ⟨a.coefs.length,rfl,by omega,by rw [pM]⟩ (by simp;omega);rintro again x ⟨i,rfl,hi,hx⟩ hr;cases i with
 |zero=>
  refine Ev.jn (fun z=>z=false) (fun j hj=>aF (fun h=>absurd h (by decide)) fun h=>hj _ rfl) fun z hz=>?_;subst hz;exact Ev.some (by rw [hx];rfl)
 |succ i=>
  have hlt:i<a.coefs.length:=by omega
  have hc:=cE hlt;have hd:=uJ hc;have e:wr (((i+1:Nat):Int)-1)=(i:Int):=by rw [aM (by omega)];omega
  rw [e];refine Ev.jn (fun z=>z=decide (a.coefs[i]=0)) (fun j hj=>aF (fun h=>aA (aI hc) (hj _ rfl)) fun h=>absurd (show(0:Int)<((i+1:Nat):Int) by omega) h) fun z hz=>?_;subst hz;refine aF (fun h0=>?_) fun h0=>Ev.some ?_
  ·exact hr _ ⟨i,rfl,by omega,by rw [hx,hd,if_pos h0]⟩ (by omega)
  rw [hx,hd,if_neg h0]
def bD(a:Affine)(d:Int):Bool:=d7 a&&decide ((eG a.coefs:Int)≤d)
def bK(l:List Affine)(d:Int):Bool:=l.all (fun a=>bD a d)&&decide (1≤l.length∧l.length≤2)
theorem ltd(a b:Int):decide (a<b)= !decide (b≤a):=by
 by_cases h:a<b
 ·rw [decide_eq_true h,decide_eq_false (by omega)];rfl
 rw [decide_eq_false h,decide_eq_true (by omega)];rfl
theorem uA{n:Nat}(hn:5500000≤n){l:List Affine}(hl:u7 l)(d:Int):m9 n l d=some (bK l d):=by
 obtain⟨h0,h1⟩:=hl;refine Ev.eq ?_;unfold m9;refine iP (l:=l) (p:=fun _ a=>bD a d) (by omega) (by omega) (fun again i x hx hgo hno=>?_) (fun again hall=>?_) (fun⟨i,x,hx,hp⟩=>?_)
 ·have hi:=(bP.1 hx).1;have hm:=h1 x (cK hx);rw [decide_eq_true (show(i:Int)<(l.length:Int) by omega)];refine cQ (Ev.jn (fun z=>z= !bD x d) (fun j hj=>aA (aI hx) (aA (gG hn x hm) ?_)) fun z hz=>?_)
  ·cases ha:d7 x with
   |false=>exact hj _ (by unfold bD;rw [ha];rfl)
   |true=>exact aA (o4 hn hm) (hj _ (by unfold bD;rw [ha,ltd];simp))
  subst hz;cases hb:bD x d with
  |true=>show Ev (again _) _;rw [aM (by omega)];exact hgo hb
  |false=>exact Ev.some (hno hb)
 ·rw [decide_eq_false (show¬(l.length:Int)<(l.length:Int) by omega)];have e:l.all (fun a=>bD a d)=true:=K3.2 fun c hc=>by obtain⟨i,hi⟩:=vAz hc;exact hall i c hi
  unfold bK;rw [e];refine bE (Ev.jn (fun z=>z=decide (1≤l.length∧l.length≤2)) (fun j hj=>aF (fun h=>hj _ ?_) fun h=>hj _ ?_) fun z hz=>Ev.some (by rw [hz];rfl))
  ·by_cases h2:l.length≤2
   ·rw [decide_eq_true (show(l.length:Int)≤2 by omega),decide_eq_true (by omega)]
   rw [decide_eq_false (show¬(l.length:Int)≤2 by omega),decide_eq_false (by omega)]
  rw [decide_eq_false (by omega)]
 unfold bK;rw [T3.2 ⟨x,cK hx,by rw [hp];simp⟩];rfl
theorem xE{n:Nat}(hn:5500000≤n){a:Affine}(ha:SmA a)(d:Int):eO n a d=some (!bD a d):=by
 unfold eO;rw [lG hn a ha];simp only [jn,Option.bind];cases hb:d7 a with
 |false=>simp [bD,hb]
 |true=>
  rw [xD hn ha];simp only [bD,hb,Bool.not_true,cond_false,Bool.true_and];rw [ltd]
theorem l9(n k:Nat):bT n (k:Int) 1 2=some (decide (1≤k∧k≤2)):=by
 rw [dW];congr 1;by_cases h:1≤k∧k≤2
 ·rw [decide_eq_true h,decide_eq_true (by omega)]
 rw [decide_eq_false h,decide_eq_false (by omega)]
theorem oK{n:Nat}(hn:5500000≤n){l:List Affine}(hl:u7 l)(d:Int):jK n l d=some (bK l d):=by
 obtain⟨h0,h1⟩:=hl;unfold jK;rw [l9];have hc:=mO (n:=n) (f:=fun q0=>eO n q0 d) (p:=fun a=> !bD a d) (l:=l) (fun x hx=>xE hn (h1 x hx) d) (by omega) (by omega);simp only [jn,Option.bind];rw [hc];unfold bK;have e:(l.any fun a=> !bD a d)= !(l.all fun a=>bD a d):=by
  rw [vAT];simp
 rw [e];cases decide (1≤l.length∧l.length≤2)<;>simp
def xC{α:Type}(p:Nat→α→Bool)(l:List α):Bool:=l.zipIdx.all fun q=>p q.2 q.1
theorem kC{α:Type}{p:Nat→α→Bool}{l:List α}(h: ∀(i:Nat) x,l[i]? =some x→p i x=true):xC p l=true:=
 K3.2 fun q hq=>h q.2 q.1 (vBd.1 hq)
theorem iK{α:Type}{p:Nat→α→Bool}{l:List α}{i:Nat}{x:α}(h:l[i]? =some x)(hp:p i x=false):xC p l=false:=
 T3.2 ⟨(x,i),vBd.2 h,by rw [hp];simp⟩
theorem xB{α:Type}{p:Nat→α→Bool}{l:List α}(h:xC p l=true){i:Nat}{x:α}(hx:l[i]? =some x):p i x=true:=
 K3.1 h (x,i) (vBd.2 hx)
def f0(nest:List Loop):Bool:=xC (fun i l=>bK l.lo (i:Int)&&bK l.hi (i:Int)) nest&&decide (nest.length≤4)
def SmN(nest:List Loop):Prop:=nest.length≤1100000∧ ∀l∈nest,u7 l.lo∧u7 l.hi
theorem xG{n:Nat}(hn:5500000≤n){nest:List Loop}(h:SmN nest):kE n nest=some (f0 nest):=by
 obtain⟨h0,h1⟩:=h;refine Ev.eq ?_;unfold kE;refine iP (l:=nest) (p:=fun i l=>bK l.lo (i:Int)&&bK l.hi (i:Int)) (by omega) (by omega) (fun again i x hx hgo hno=>?_) (fun again hall=>?_) (fun⟨i,x,hx,hp⟩=>?_)
 ·have hi:=(bP.1 hx).1;obtain⟨m1,m2⟩:=h1 x (cK hx);rw [decide_eq_true (show(i:Int)<(nest.length:Int) by omega)];refine aA (aI hx) (Ev.jn (fun z=>z= !(bK x.lo (i:Int)&&bK x.hi (i:Int))) (fun j hj=>aA (oK hn m1 _) ?_) fun z hz=>?_)
  ·cases ha:bK x.lo (i:Int) with
   |false=>exact hj _ (by rw [ha];rfl)
   |true=>exact aA (oK hn m2 _) (hj _ (by rw [ha];rfl))
  subst hz;cases hb:(bK x.lo (i:Int)&&bK x.hi (i:Int)) with
  |true=>show Ev (again _) _;rw [aM (by omega)];exact hgo hb
  |false=>exact Ev.some (hno hb)
 ·rw [decide_eq_false (show¬(nest.length:Int)<(nest.length:Int) by omega)];refine Ev.some ?_;unfold f0;rw [kC hall,U9];exact decide_eq_decide.2 (by omega)
 unfold f0;rw [iK hx hp];rfl
theorem wH{n:Nat}(hn:5500000≤n){nest:List Loop}(h:SmN nest):jX n nest=some (f0 nest):=by
 obtain⟨h0,h1⟩:=h;unfold jX;by_cases h4:nest.length≤4
 ·rw [decide_eq_true (show(nest.length:Int)≤4 by omega)];refine Ev.eq ?_;refine iP (l:=nest) (p:=fun i l=>bK l.lo (i:Int)&&bK l.hi (i:Int)) (by omega) (by omega) (fun again i x hx hgo hno=>?_) (fun again hall=>?_) (fun⟨i,x,hx,hp⟩=>?_)
  ·have hi:=(bP.1 hx).1;obtain⟨m1,m2⟩:=h1 x (cK hx);rw [decide_eq_true (show(i:Int)<(nest.length:Int) by omega)];refine Ev.jn (fun z=>z=true) (fun j hj=>cQ (hj _ rfl)) fun z hz=>?_;subst hz;refine cQ (Ev.jn (fun z=>z= !(bK x.lo (i:Int)&&bK x.hi (i:Int))) (fun j hj=>aA (aI hx) (aA (uA hn m1 _) ?_)) fun z hz=>?_)
   ·cases ha:bK x.lo (i:Int) with
    |false=>exact hj _ (by rw [ha];rfl)
    |true=>exact aA (uA hn m2 _) (hj _ (by rw [ha];rfl))
   subst hz;cases hb:(bK x.lo (i:Int)&&bK x.hi (i:Int)) with
   |true=>show Ev (again _) _;rw [aM (by omega)];exact hgo hb
   |false=>exact Ev.some (hno hb)
  ·rw [decide_eq_false (show¬(nest.length:Int)<(nest.length:Int) by omega)];refine Ev.jn (fun z=>z=false) (fun j hj=>bE (hj _ rfl)) fun z hz=>?_;subst hz;refine Ev.some ?_;unfold f0;rw [kC hall,decide_eq_true h4];rfl
  unfold f0;rw [iK hx hp];rfl
 obtain⟨k,rfl⟩: ∃k,n=k+1:=⟨n-1,by omega⟩
 rw [decide_eq_false (show¬(nest.length:Int)≤4 by omega)];unfold f0;rw [decide_eq_false h4,Bool.and_false];simp only [aH,jn];cases decide ((0:Int)<(nest.length:Int))<;>rfl
def mx:List Int→Int
 | []=>0
 |x::xs=>xs.foldl max x
def mn:List Int→Int
 | []=>0
 |x::xs=>xs.foldl min x
theorem aE9{l:List Int}(h:l≠[])(x:Int):mx (l++[x])=max (mx l) x:=by
 cases l with
 |nil=>exact absurd rfl h
 |cons a l=>simp [mx,List.foldl_append]
theorem aFa{l:List Int}(h:l≠[])(x:Int):mn (l++[x])=min (mn l) x:=by
 cases l with
 |nil=>exact absurd rfl h
 |cons a l=>simp [mn,List.foldl_append]
theorem aFG: ∀(l:List Int) (a:Int),a≤l.foldl max a
 | [],a=>v2 _
 |x::l,a=>Int.le_trans (Int.le_max_left a x) (aFG l (max a x))
theorem aFH: ∀(l:List Int) (a:Int),l.foldl min a≤a
 | [],a=>v2 _
 |x::l,a=>Int.le_trans (aFH l (min a x)) (Int.min_le_left a x)
def evs(l:List Affine)(p:List Int):List Int:=l.map fun a=>dK a p
def gK(l:Loop)(p:List Int):Int:=mx (evs l.lo p)
def lQ(l:Loop)(p:List Int):Int:=mn (evs l.hi p)
def kW(k:Nat)(p:List Int):Prop:=p.length=k∧k≤4∧ptB (100*40^k) p
theorem wO{k:Nat}(h:k≤4):(0:Int)≤100*40^k∧(100:Int)*40^k≤1000000000:=by
 match k,h with
 |0,_=>decide
 |1,_=>decide
 |2,_=>decide
 |3,_=>decide
 |4,_=>decide
theorem sX{l:List Affine}{d:Int}(h:bK l d=true):1≤l.length∧l.length≤2∧ ∀a∈l,d7 a=true:=by
 simp only [bK,Bool.and_eq_true,decide_eq_true_eq,List.all_eq_true] at h;refine⟨h.2.1,h.2.2,fun a ha=>?_⟩
 have:=h.1 a ha;simp only [bD,Bool.and_eq_true] at this;exact this.1
theorem aDj{a:Affine}(ha:d7 a=true){k:Nat}{p:List Int}(hp:kW k p)(hk:k≤3): -(40*(100*40^k))≤dK a p∧dK a p≤40*(100*40^k):=by
 obtain⟨h1,h2,h3⟩:=r7 ha;obtain⟨p1,p2,p3⟩:=hp;obtain⟨q1,q2⟩:=wO (k:=k) (by omega);have hq:(100:Int)≤100*40^k:=by
  match k,hk with
  |0,_=>decide
  |1,_=>decide
  |2,_=>decide
  |3,_=>decide
 generalize (100*40^k:Int)=M at*;have h4:=aDS (M:=M) q1 (cs:=a.coefs) (xs:=p) h3 fun x hx=>p3 x hx;have h6:9*M*(p.length:Int)≤9*M*3:=Int.mul_le_mul_of_nonneg_left (by omega) (by omega);simp only [yN] at*;unfold dK;omega
theorem aCL{n:Nat}(hn:5500000≤n){a:Affine}(ha:d7 a=true){k:Nat}{p:List Int}(hp:kW k p):eX n a p=some (dK a p):=
 aBq hn ha (by have:=hp.1;have:=hp.2.1;omega) (wO hp.2.1) hp.2.2
theorem aDd{n:Nat}(hn:5500000≤n){a:Affine}(ha:d7 a=true){k:Nat}{p:List Int}(hp:kW k p):bQ n a p=some (dK a p):=
 aBH hn ha (by have:=hp.1;have:=hp.2.1;omega) (wO hp.2.1) hp.2.2
theorem gQ{l:List Affine}{p:List Int}{i:Nat}{a:Affine}(h:l[i]? =some a):(evs l p)[i]? =some (dK a p):=by unfold evs;rw [List.getElem?_map,h];rfl
theorem vO(l:List Affine)(p:List Int):(evs l p).length=l.length:=zP ..
theorem aAJ{α:Type}{l:List α}{i:Nat}(h:1≤i)(hl:1≤l.length):l.take i≠[]:=by
 intro e
 have:(l.take i).length=0:=by rw [e];rfl
 rw [nQ] at this;omega
theorem aAT{l:List Int}{i:Nat}{x:Int}(h:l[i]? =some x)(hi:1≤i):mx (l.take (i+1))=max (mx (l.take i)) x:=by have:=(bP.1 h).1;rw [K1,h];exact aE9 (aAJ hi (by omega)) x
theorem aAV{l:List Int}{i:Nat}{x:Int}(h:l[i]? =some x)(hi:1≤i):mn (l.take (i+1))=min (mn (l.take i)) x:=by have:=(bP.1 h).1;rw [K1,h];exact aFa (aAJ hi (by omega)) x
theorem W5{l:List Int}{x:Int}(h:l[0]? =some x):mx (l.take 1)=x:=by
 cases l with
 |nil=>simp at h
 |cons a l=>simp at h;subst h;rfl
theorem W6{l:List Int}{x:Int}(h:l[0]? =some x):mn (l.take 1)=x:=by
 cases l with
 |nil=>simp at h
 |cons a l=>simp at h;subst h;rfl
theorem wE{n:Nat}(hn:5500000≤n){l:Loop}{d d':Int}(h1:bK l.lo d=true)(h2:bK l.hi d'=true){k:Nat}{p:List Int}(hp:kW k p):lA n l p=some (gK l p,lQ l p):=by
 obtain⟨a1,a2,a3⟩:=sX h1;obtain⟨b1,b2,b3⟩:=sX h2;have g1:=cE (show 0<l.lo.length by omega);have g2:=cE (show 0<l.hi.length by omega);refine Ev.eq ?_;unfold lA;refine aA (aI (i:=0) g1) (aA (aCL hn (a3 _ (cK g1)) hp) (aA (aI (i:=0) g2) (aA (aCL hn (b3 _ (cK g2)) hp) ?_)));refine Ev.loop (fun x:Int×Int=> ∃i:Nat,x.2=i∧1≤i∧i≤l.lo.length∧x.1=mx ((evs l.lo p).take i)) (fun x=>l.lo.length-x.2.toNat) ?_ n _ ⟨1,rfl,by omega,by omega,(W5 (gQ g1)).symm⟩ (by dsimp only;omega);rintro again ⟨x,z⟩ ⟨i,hz,hi1,hi,hx⟩ hr;dsimp only at hz hx⊢;subst hz;refine aF (fun hlt=>?_) fun hge=>?_
 ·have g:=cE (show i<l.lo.length by omega);have e:=aAT (gQ (p:=p) g) hi1;refine Ev.jn (fun z=>z=mx ((evs l.lo p).take (i+1))) (fun j hj=>aA (aI g) (aA (aCL hn (a3 _ (cK g)) hp) (aF (fun h=>hj _ ?_) fun h=>hj _ ?_))) fun z hz=>?_
  ·rw [e,←hx];omega
  ·rw [e,←hx];omega
  rw [aM (by omega)];exact hr _ ⟨i+1,by dsimp only;omega,by omega,by omega,hz⟩ (by dsimp only;omega)
 have hie:i=l.lo.length:=by omega
 have hx':x=gK l p:=by rw [hx,hie,←vO l.lo p,pM];rfl
 refine Ev.loop (fun x:Int×Int=> ∃i:Nat,x.2=i∧1≤i∧i≤l.hi.length∧x.1=mn ((evs l.hi p).take i)) (fun x=>l.hi.length-x.2.toNat) ?_ n _ ⟨1,rfl,by omega,by omega,(W6 (gQ g2)).symm⟩ (by dsimp only;omega);rintro again2 ⟨y,z⟩ ⟨i,hz,hi1,hi,hy⟩ hr2;dsimp only at hz hy⊢;subst hz;refine aF (fun hlt=>?_) fun hge=>Ev.some ?_
 ·have g:=cE (show i<l.hi.length by omega);have e:=aAV (gQ (p:=p) g) hi1;refine Ev.jn (fun z=>z=mn ((evs l.hi p).take (i+1))) (fun j hj=>aA (aI g) (aA (aCL hn (b3 _ (cK g)) hp) (aF (fun h=>hj _ ?_) fun h=>hj _ ?_))) fun z hz=>?_
  ·rw [e,←hy];omega
  ·rw [e,←hy];omega
  rw [aM (by omega)];exact hr2 _ ⟨i+1,by dsimp only;omega,by omega,by omega,hz⟩ (by dsimp only;omega)
 have hie:i=l.hi.length:=by omega
 rw [hx',hy,hie,←vO l.hi p,pM];rfl
theorem aBF{n:Nat}(hn:5500000≤n){l:Loop}{d d':Int}(h1:bK l.lo d=true)(h2:bK l.hi d'=true){k:Nat}{p:List Int}(hp:kW k p):kF n l p=some (gK l p,lQ l p):=by
 obtain⟨a1,a2,a3⟩:=sX h1;obtain⟨b1,b2,b3⟩:=sX h2;have g1:=cE (show 0<l.lo.length by omega);have g2:=cE (show 0<l.hi.length by omega);refine Ev.eq ?_;unfold kF;refine aA (aI (i:=0) g1) (aA (aDd hn (a3 _ (cK g1)) hp) (aA (aI (i:=0) g2) (aA (aDd hn (b3 _ (cK g2)) hp) ?_)));refine Ev.loop (fun x:Int×Int=> ∃i:Nat,x.2=i∧i≤l.lo.length∧x.1=mx ((evs l.lo p).take (max i 1))) (fun x=>l.lo.length-x.2.toNat) ?_ n _ ⟨0,rfl,by omega,(W5 (gQ g1)).symm⟩ (by dsimp only;omega);rintro again ⟨x,z⟩ ⟨i,hz,hi,hx⟩ hr;dsimp only at hz hx⊢;subst hz;refine aF (fun hlt=>?_) fun hge=>?_
 ·have g:=cE (show i<l.lo.length by omega);refine aA (aI g) (aA (aDd hn (a3 _ (cK g)) hp) ?_);rw [aM (by omega)];refine hr _ ⟨i+1,by dsimp only;omega,by omega,?_⟩ (by dsimp only;omega);dsimp only;rw [show max (i+1) 1=i+1 by omega];cases i with
  |zero=>rw [hx,show max 0 1=1 by rfl,jR,W5 (gQ g)];omega
  |succ i=>rw [aAT (gQ (p:=p) g) (by omega),hx,show max (i+1) 1=i+1 by omega]
 have hie:i=l.lo.length:=by omega
 have hx':x=gK l p:=by rw [hx,hie,Nat.max_eq_left (by omega),←vO l.lo p,pM];rfl
 refine Ev.loop (fun x:Int×Int=> ∃i:Nat,x.2=i∧i≤l.hi.length∧x.1=mn ((evs l.hi p).take (max i 1))) (fun x=>l.hi.length-x.2.toNat) ?_ n _ ⟨0,rfl,by omega,(W6 (gQ g2)).symm⟩ (by dsimp only;omega);rintro again2 ⟨y,z⟩ ⟨i,hz,hi,hy⟩ hr2;dsimp only at hz hy⊢;subst hz;refine aF (fun hlt=>?_) fun hge=>Ev.some ?_
 ·have g:=cE (show i<l.hi.length by omega);refine aA (aI g) (aA (aDd hn (b3 _ (cK g)) hp) ?_);rw [aM (by omega)];refine hr2 _ ⟨i+1,by dsimp only;omega,by omega,?_⟩ (by dsimp only;omega);dsimp only;rw [show max (i+1) 1=i+1 by omega];cases i with
  |zero=>rw [hy,show max 0 1=1 by rfl,jR,W6 (gQ g)];omega
  |succ i=>rw [aAV (gQ (p:=p) g) (by omega),hy,show max (i+1) 1=i+1 by omega]
 have hie:i=l.hi.length:=by omega
 rw [hx',hy,hie,Nat.max_eq_left (by omega),←vO l.hi p,pM];rfl
theorem vE{l:Loop}{d d':Int}(h1:bK l.lo d=true)(h2:bK l.hi d'=true){k:Nat}{p:List Int}(hp:kW k p)(hk:k≤3){v:Int}(hv:gK l p≤v∧v<lQ l p):kW (k+1) (p++[v]):=by
 obtain⟨a1,a2,a3⟩:=sX h1;obtain⟨b1,b2,b3⟩:=sX h2;have e1: -(40*(100*40^k))≤gK l p:=by
  cases hl:l.lo with
  |nil=>rw [hl] at a1;simp at a1
  |cons a as=>
   have:=(aDj (a3 a (by rw [hl];simp)) hp hk).1;unfold gK evs;rw [hl];exact Int.le_trans this (aFG _ _)
 have e2:lQ l p≤40*(100*40^k):=by
  cases hl:l.hi with
  |nil=>rw [hl] at b1;simp at b1
  |cons a as=>
   have:=(aDj (b3 a (by rw [hl];simp)) hp hk).2;unfold lQ evs;rw [hl];exact Int.le_trans (aFH _ _) this
 obtain⟨p1,p2,p3⟩:=hp;have e3:(100*40^(k+1):Int)=40*(100*40^k):=by rw [Int.pow_succ];omega
 have q:=(wO (k:=k) (by omega)).1;refine⟨by simp [p1],by omega,fun x hx=>?_⟩;rw [e3];rcases yJ.1 hx with h|h
 ·have:=p3 x h;simp only [yN] at this⊢;omega
 simp at h;subst h;simp only [yN];omega
def pts:List Loop→List Int→List (List Int)
 | [],p=>[p]
 |l::ls,p=>(gH (gK l p) (lQ l p)).flatMap fun v=>pts ls (p++[v])
def wk:List Loop→List Int→Int
 | [],_=>1
 |l::ls,p=>1+((gH (gK l p) (lQ l p)).map fun v=>wk ls (p++[v])).sum
theorem kL{α:Type}(f:α→Int): ∀(l:List α),(∀x∈l,1≤f x)→(l.length:Int)≤(l.map f).sum
 | [],_=>by simp
 |x::l,h=>by have h1:=kL f l fun y hy=>h y (by simp [hy]);have h2:=h x (by simp);simp only [List.map_cons,List.sum_cons,List.length_cons];omega
theorem D2: ∀(ls:List Loop) (p:List Int),1≤wk ls p
 | [],p=>v2 _
 |l::ls,p=>by have:=kL (fun v=>wk ls (p++[v])) (gH (gK l p) (lQ l p)) fun v _=>D2 ls _;simp only [wk];omega
def Fit(nest:List Loop):Prop:=nest.length≤4∧ ∀(i:Nat) l,nest[i]? =some l→bK l.lo (i:Int)=true∧bK l.hi (i:Int)=true
theorem G5{nest:List Loop}(h:f0 nest=true):Fit nest:=by
 simp only [f0,Bool.and_eq_true,decide_eq_true_eq] at h;refine⟨h.2,fun i l hl=>?_⟩
 have:=xB h.1 hl;simpa [Bool.and_eq_true] using this
theorem n8{nest:List Loop}{k:Nat}{l:Loop}{ls:List Loop}(h:nest.drop k=l::ls):nest[k]? =some l∧nest.drop (k+1)=ls∧k<nest.length:=by
 have h1:(nest.drop k)[0]? =some l:=by rw [h];rfl
 rw [vAF,vBs] at h1;refine⟨h1,?_,(bP.1 h1).1⟩
 have:(nest.drop k).drop 1=ls:=by rw [h];rfl
 rwa [List.drop_drop] at this
theorem rD{nest:List Loop}{k:Nat}(h:nest.drop k=[])(hk:k≤nest.length):k=nest.length:=by
 have:(nest.drop k).length=0:=by rw [h];rfl
 rw [vBg] at this;omega
theorem iE(p:List Int)(h:p.length≤1100000):app [] p=some p:=by rw [cG (by simp;omega)];rfl
theorem M1(l:List Int)(f:Int→Int)(v:Int):((l++[v]).map f).sum=(l.map f).sum+f v:=by simp
theorem aE2{lo v:Int}(h:lo≤v):((gH lo v).length:Int)=v-lo:=by unfold gH;simp;omega
theorem zS{nest:List Loop}(hf:Fit nest): ∀(ls:List Loop) (n k:Nat) (p:List Int) (most:Int),5500000+ls.length≤n→nest.drop k=ls→k≤nest.length→kW k p→0≤most→most≤1200→
  Ev (s_l2Work n nest p most) (fun r=>(wk ls p≤most→r=wk ls p)∧(most<wk ls p→most<r)∧1≤r∧r≤most+1)
 | [],n,k,p,most,hn,hd,hk,hp,h0,h1=>by
  obtain⟨n,rfl⟩: ∃j,n=j+1:=⟨n-1,by omega⟩
  have hk':=rD hd hk;have hpl:=hp.1;unfold s_l2Work;rw [decide_eq_true (show(p.length:Int)=(nest.length:Int) by omega)];exact Ev.some ⟨fun _=>rfl,fun h=>by simp only [wk] at h;omega,by omega,by omega⟩
 |l::ls,n,k,p,most,hn,hd,hk,hp,h0,h1=>by
  obtain⟨n,rfl⟩: ∃j,n=j+1:=⟨n-1,by omega⟩
  obtain⟨d1,d2,d3⟩:=n8 hd;obtain⟨s1,s2⟩:=hf.2 k l d1;have hpl:=hp.1;have hk3:k≤3:=by have:=hf.1;omega
  simp only [List.length_cons] at hn;unfold s_l2Work;rw [decide_eq_false (show¬(p.length:Int)=(nest.length:Int) by omega)];refine bE (aA (x:=l) (by rw [hpl];exact aI d1) (aA (wE (by omega) s1 s2 hp) ?_));let f:Int→Int:=fun v=>wk ls (p++[v]);have hfp: ∀v,1≤f v:=fun v=>D2 _ _;have hW:wk (l::ls) p=1+((gH (gK l p) (lQ l p)).map f).sum:=rfl;refine Ev.loop (fun x:Int×Int=>gK l p≤x.2∧(x.2≤lQ l p∨x.2=gK l p)∧(1+((gH (gK l p) x.2).map f).sum≤most→x.1=1+((gH (gK l p) x.2).map f).sum)∧(most<1+((gH (gK l p) x.2).map f).sum→most<x.1)∧1≤x.1∧x.1≤most+1)
   (fun x=>(most+1-x.1).toNat) ?_ n _ ⟨v2 _,.inr rfl,fun _=>by rw [eM (v2 _)];rfl,fun h=>by rw [eM (v2 _)] at h;simp at h;dsimp only;omega,by dsimp only;omega,by dsimp only;omega⟩ (by dsimp only;omega)
  rintro again ⟨x,v⟩ ⟨i1,i2,i3,i4,i5,i6⟩ hr;dsimp only at i1 i2 i3 i4 i5 i6⊢;refine Ev.jn (fun z=>z=decide (v<lQ l p∧x≤most)) (fun j hj=>aF (fun h=>hj _ ?_) fun h=>hj _ ?_) fun z hz=>?_
  ·by_cases hx:x≤most
   ·rw [decide_eq_true hx,decide_eq_true ⟨h,hx⟩]
   rw [decide_eq_false hx,decide_eq_false fun h=>hx h.2]
  ·rw [decide_eq_false fun h'=>h h'.1]
  subst hz;refine aF (fun⟨hv,hx⟩=>?_) fun hno=>Ev.some ?_
  ·have hsum:x=1+((gH (gK l p) v).map f).sum:=i3 (by apply Int.not_lt.1;intro h;have:=i4 h;omega);have hp':=vE s1 s2 hp hk3 ⟨i1,hv⟩;have e1:wr (most-x)=most-x:=by rw [aM (by omega)]
   rw [e1];refine aA (iE p (by omega)) (aA (cG (by simp;omega)) (eJ (zS hf ls n (k+1) (p++[v]) (most-x) (by omega) d2 (by omega) hp' (by omega) (by omega)) fun r ⟨r1,r2,r3,r4⟩=>?_));have hvb:v<lQ l p:=hv;have hvr: -1000000000≤v∧v≤1000000000:=by
    have h9:=hp'.2.2 v (by simp);have h8:=wO hp'.2.1;simp only [yN] at h9;omega
   rw [aM (n:=v+1) (by omega),aM (n:=x+r) (by omega)];have hs:1+((gH (gK l p) (v+1)).map f).sum=x+f v:=by rw [jH i1,M1,hsum];omega
   refine hr _ ⟨by dsimp only;omega,.inl (by dsimp only;omega),?_,?_,by dsimp only;omega,by dsimp only;omega⟩ (by dsimp only;omega)
   ·dsimp only;rw [hs];intro h
    have:r=f v:=r1 (show f v≤most-x by omega);omega
   dsimp only;rw [hs];intro h
   have:most-x<r:=r2 (show most-x<f v by omega);omega
  have hmono:1+((gH (gK l p) v).map f).sum≤wk (l::ls) p∧(lQ l p≤v→1+((gH (gK l p) v).map f).sum=wk (l::ls) p):=by
   rw [hW];by_cases h:v<lQ l p
   ·refine⟨?_,fun h'=>by omega⟩;rw [nU i1 h,vBb,List.sum_append,List.map_cons,List.sum_cons]
    have:=kL f (gH (v+1) (lQ l p)) fun y _=>hfp y
    have:=hfp v;omega
   have:gH (gK l p) v=gH (gK l p) (lQ l p):=by
    rcases i2 with h2|h2
    ·rw [show v=lQ l p by omega]
    subst h2;rw [eM (v2 _),eM (by omega)]
   rw [this];exact⟨v2 _,fun _=>rfl⟩
  refine⟨fun h=>?_,fun h=>?_,i5,i6⟩
  ·have hx:=i3 (by omega);rw [hx];apply hmono.2;apply Int.not_lt.1;intro hv;exact hno ⟨hv,by omega⟩
  apply Int.not_le.1;intro hx;have hv:lQ l p≤v:=by apply Int.not_lt.1;intro hv;exact hno ⟨hv,hx⟩
  have:=i4 (by rw [hmono.2 hv];exact h);omega
theorem m7{nest:List Loop}(hf:Fit nest): ∀(ls:List Loop) (n k:Nat) (p:List Int) (out:List (List Int)),5500000+ls.length≤n→nest.drop k=ls→k≤nest.length→kW k p→wk ls p≤1200→out.length≤120→
  Ev (s_l2Points n out nest p) (fun r=>(out.length+(pts ls p).length≤120→r=out++pts ls p)∧(120<out.length+(pts ls p).length→120<r.length))
 | [],n,k,p,out,hn,hd,hk,hp,h0,h1=>by
  obtain⟨n,rfl⟩: ∃j,n=j+1:=⟨n-1,by omega⟩
  have hk':=rD hd hk;have hpl:=hp.1;have hf1:=hf.1;unfold s_l2Points;rw [decide_eq_true (show(p.length:Int)=(nest.length:Int) by omega)];refine cQ (aA (iE p (by omega)) (aA (cG (by simp;omega)) (Ev.some ⟨fun _=>rfl,fun h=>by simp [pts] at h ⊢; omega⟩)))
 |l::ls,n,k,p,out,hn,hd,hk,hp,h0,h1=>by
  obtain⟨n,rfl⟩: ∃j,n=j+1:=⟨n-1,by omega⟩
  obtain⟨d1,d2,d3⟩:=n8 hd;obtain⟨s1,s2⟩:=hf.2 k l d1;have hpl:=hp.1;have hf1:=hf.1;have hk3:k≤3:=by omega
  simp only [List.length_cons] at hn;unfold s_l2Points;rw [decide_eq_false (show¬(p.length:Int)=(nest.length:Int) by omega)];refine bE (aA (x:=l) (by rw [hpl];exact aI d1) (aA (wE (by omega) s1 s2 hp) ?_));let f:Int→Int:=fun v=>wk ls (p++[v]);have hfp: ∀v,1≤f v:=fun v=>D2 _ _;have hW:wk (l::ls) p=1+((gH (gK l p) (lQ l p)).map f).sum:=rfl;let g:Int→List (List Int):=fun v=>pts ls (p++[v]);have hP:pts (l::ls) p=(gH (gK l p) (lQ l p)).flatMap g:=rfl;have hlen:gK l p≤lQ l p→lQ l p-gK l p≤1199:=fun hle=>by
   have:=kL f (gH (gK l p) (lQ l p)) fun y _=>hfp y
   have:=aE2 hle;omega
  refine Ev.loop (fun x:List (List Int)×Int=>gK l p≤x.2∧(x.2≤lQ l p∨x.2=gK l p)∧(out.length+((gH (gK l p) x.2).flatMap g).length≤120→x.1=out++(gH (gK l p) x.2).flatMap g)∧(120<out.length+((gH (gK l p) x.2).flatMap g).length→120<x.1.length))
   (fun x=>(lQ l p-x.2).toNat) ?_ n _ ⟨v2 _,.inr rfl,fun _=>by rw [eM (v2 _)];simp,fun h=>by rw [eM (v2 _)] at h;simp at h;omega⟩ (by dsimp only;omega)
  rintro again ⟨x,v⟩ ⟨i1,i2,i3,i4⟩ hr;dsimp only at i1 i2 i3 i4⊢;refine Ev.jn (fun z=>z=decide (v<lQ l p∧x.length≤120)) (fun j hj=>aF (fun h=>hj _ ?_) fun h=>hj _ ?_) fun z hz=>?_
  ·by_cases hx:x.length≤120
   ·rw [decide_eq_true (show(x.length:Int)≤120 by omega),decide_eq_true ⟨h,hx⟩]
   rw [decide_eq_false (show¬(x.length:Int)≤120 by omega),decide_eq_false fun h=>hx h.2]
  ·rw [decide_eq_false fun h'=>h h'.1]
  subst hz;refine aF (fun⟨hv,hx⟩=>?_) fun hno=>Ev.some ?_
  ·have hxe:x=out++(gH (gK l p) v).flatMap g:=i3 (by apply Nat.not_lt.1;intro h;have:=i4 h;omega);have hp':=vE s1 s2 hp hk3 ⟨i1,hv⟩;have hwc:f v≤1200:=by
    rw [hW,nU i1 hv,vBb,List.sum_append,List.map_cons,List.sum_cons] at h0
    have:=kL f (gH (v+1) (lQ l p)) fun y _=>hfp y
    have:=kL f (gH (gK l p) v) fun y _=>hfp y;omega
   refine aA (iE p (by omega)) (aA (cG (by simp;omega)) (eJ (m7 hf ls n (k+1) (p++[v]) x (by omega) d2 (by omega) hp' hwc hx) fun r ⟨r1,r2⟩=>?_));have hvr: -1000000000≤v∧v≤1000000000:=by
    have h9:=hp'.2.2 v (by simp);have h8:=wO hp'.2.1;simp only [yN] at h9;omega
   rw [aM (n:=v+1) (by omega)];have hs:(gH (gK l p) (v+1)).flatMap g=(gH (gK l p) v).flatMap g++g v:=by rw [jH i1,vAN];simp
   refine hr _ ⟨by dsimp only;omega,.inl (by dsimp only;omega),?_,?_⟩ (by dsimp only;omega)
   ·dsimp only;rw [hs];intro h;simp only [List.length_append] at h;have hl:x.length=out.length+((gH (gK l p) v).flatMap g).length:=by rw [hxe,kK]
    rw [r1 (show x.length+(g v).length≤120 by omega),hxe,vAM]
   dsimp only;rw [hs];intro h;simp only [List.length_append] at h;have hl:x.length=out.length+((gH (gK l p) v).flatMap g).length:=by rw [hxe,kK]
   exact r2 (show 120<x.length+(g v).length by omega)
  have hmono:((gH (gK l p) v).flatMap g).length≤(pts (l::ls) p).length∧(lQ l p≤v→(gH (gK l p) v).flatMap g=pts (l::ls) p):=by
   rw [hP];by_cases h:v<lQ l p
   ·refine⟨?_,fun h'=>by omega⟩;rw [nU i1 h,vAN,kK];omega
   have:gH (gK l p) v=gH (gK l p) (lQ l p):=by
    rcases i2 with h2|h2
    ·rw [show v=lQ l p by omega]
    subst h2;rw [eM (v2 _),eM (by omega)]
   rw [this];exact⟨jD _,fun _=>rfl⟩
  refine⟨fun h=>?_,fun h=>?_⟩
  ·have hx:=i3 (by omega);rw [hx,hmono.2];apply Int.not_lt.1;intro hv;exact hno ⟨hv,by rw [hx,kK];omega⟩
  apply Nat.not_le.1;intro hx;have hv:lQ l p≤v:=by apply Int.not_lt.1;intro hv;exact hno ⟨hv,hx⟩
  have:=i4 (by rw [hmono.2 hv];exact h);omega
theorem A7{nest:List Loop}(hf:Fit nest): ∀(ls:List Loop) (n k:Nat) (p:List Int) (st:Int) (out:List (List Int)),5500000+ls.length≤n→nest.drop k=ls→k≤nest.length→kW k p→0≤st→st≤1199→out.length≤120→
  Ev (i_walking_walk n ⟨nest,st,out⟩ p) (fun r=>(st+wk ls p≤1200∧out.length+(pts ls p).length≤120→r=(true,⟨nest,st+wk ls p-1,out++pts ls p⟩))∧(¬(st+wk ls p≤1200∧out.length+(pts ls p).length≤120)→r.1=false))
 | [],n,k,p,st,out,hn,hd,hk,hp,h0,h1,h2=>by
  obtain⟨n,rfl⟩: ∃j,n=j+1:=⟨n-1,by omega⟩
  have hk':=rD hd hk;have hpl:=hp.1;have hf1:=hf.1;unfold i_walking_walk;dsimp only;rw [decide_eq_true (show(p.length:Int)=(nest.length:Int) by omega)];have hc:m_ownClone p=some p:=by unfold m_ownClone;rw [if_pos (by omega)]
  refine cQ (aA hc (aA (cG (by simp;omega)) (Ev.some ⟨fun h=>?_,fun h=>?_⟩)))
  ·simp only [wk,pts,List.length_singleton] at h⊢;rw [decide_eq_true (by simp;omega),show st+1-1=st by omega]
  simp only [wk,pts,List.length_singleton] at h⊢;exact decide_eq_false (by simp;omega)
 |l::ls,n,k,p,st,out,hn,hd,hk,hp,h0,h1,h2=>by
  obtain⟨n,rfl⟩: ∃j,n=j+1:=⟨n-1,by omega⟩
  obtain⟨d1,d2,d3⟩:=n8 hd;obtain⟨s1,s2⟩:=hf.2 k l d1;have hpl:=hp.1;have hf1:=hf.1;have hk3:k≤3:=by omega
  simp only [List.length_cons] at hn;unfold i_walking_walk;dsimp only;rw [decide_eq_false (show¬(p.length:Int)=(nest.length:Int) by omega)];refine bE (aA (x:=l) (by rw [hpl];exact aI d1) (aA (aBF (by omega) s1 s2 hp) ?_));let f:Int→Int:=fun v=>wk ls (p++[v]);have hfp: ∀v,1≤f v:=fun v=>D2 _ _;have hW:wk (l::ls) p=1+((gH (gK l p) (lQ l p)).map f).sum:=rfl;let g:Int→List (List Int):=fun v=>pts ls (p++[v]);have hP:pts (l::ls) p=(gH (gK l p) (lQ l p)).flatMap g:=rfl;refine Ev.loop (fun x:List Loop×Int×List (List Int)×Int=>x.1=nest∧gK l p≤x.2.2.2∧(x.2.2.2≤lQ l p∨x.2.2.2=gK l p)∧x.2.1=st+((gH (gK l p) x.2.2.2).map f).sum∧x.2.2.1=out++(gH (gK l p) x.2.2.2).flatMap g∧0≤x.2.1∧x.2.1≤1199∧x.2.2.1.length≤120)
   (fun x=>(1200-x.2.1).toNat) ?_ n _ ⟨rfl,v2 _,.inr rfl,by dsimp only;rw [eM (v2 _)];simp,by dsimp only;rw [eM (v2 _)];simp,h0,h1,h2⟩ (by dsimp only;omega)
  rintro again ⟨nst,x,o,v⟩ ⟨i0,i1,i2,i3,i4,i5,i6,i7⟩ hr;dsimp only at i0 i1 i2 i3 i4 i5 i6 i7⊢;subst i0;have hol:o.length=out.length+((gH (gK l p) v).flatMap g).length:=by rw [i4,kK]
  refine aF (fun hv=>?_) fun hv=>Ev.some ?_
  ·have hp':=vE s1 s2 hp hk3 ⟨i1,hv⟩;have hrest:wk (l::ls) p≥1+((gH (gK l p) v).map f).sum+f v∧(pts (l::ls) p).length≥((gH (gK l p) v).flatMap g).length+(g v).length:=by
    rw [hW,hP,nU i1 hv,vBb,List.sum_append,List.map_cons,List.sum_cons,vAN,kK,vBw,kK]
    have:=kL f (gH (v+1) (lQ l p)) fun y _=>hfp y;constructor
    ·omega
    omega
   have hvr: -1000000000≤v∧v≤1000000000:=by
    have h9:=hp'.2.2 v (by simp);have h8:=wO hp'.2.1;simp only [yN] at h9;omega
   have e1:wr (x+1)=x+1:=by rw [aM (by omega)]
   have e2:wr (x+1+1)=x+1+1:=by rw [aM (by omega)]
   have e3:wr (v+1)=v+1:=by rw [aM (by omega)]
   rw [e1,e2,e3];refine Ev.jn (fun z:List Loop×Int×List (List Int)×Bool=>(z.2.2.2=false→z.1=nst∧x+f v≤1199∧o.length+(g v).length≤120∧z.2.1=x+f v∧z.2.2.1=o++g v)∧(z.2.2.2=true→ ¬(st+wk (l::ls) p≤1200∧out.length+(pts (l::ls) p).length≤120)))
    (fun j hj=>aF (fun h=>hj _ ⟨fun h'=>(by cases h'),fun _=>?_⟩) fun h=>?_) fun z hz=>?_
   ·have:=hfp v;omega
   ·have hc:m_ownClone p=some p:=by unfold m_ownClone;rw [if_pos (by omega)]
    refine aA hc (aA (cG (by simp;omega)) (eJ (A7 hf ls n (k+1) (p++[v]) (x+1) o (by omega) d2 (by omega) hp' (by omega) (by omega) i7) fun r ⟨r1,r2⟩=>?_));by_cases hc:x+1+f v≤1200∧o.length+(g v).length≤120
    ·rw [r1 hc];exact hj _ ⟨fun _=>⟨rfl,by omega,hc.2,show x+1+f v-1=x+f v by omega,rfl⟩,fun h=>(by cases h)⟩
    have hr1:=r2 hc;obtain⟨rb,⟨rn,rs,ro⟩⟩:=r;dsimp only at hr1⊢;subst hr1;exact hj _ ⟨fun h=>(by cases h),fun _=>by omega⟩
   obtain⟨za,zb,zc,zd⟩:=z;obtain⟨z2,z3⟩:=hz;dsimp only at z2 z3⊢;cases zd with
   |true=>exact Ev.some ⟨fun h=>absurd h (z3 rfl),fun _=>rfl⟩
   |false=>
    obtain⟨rfl,y1,y2,y3,y4⟩:=z2 rfl;refine hr _ ⟨rfl,by dsimp only;omega,.inl (by dsimp only;omega),?_,?_,by dsimp only;have:=hfp v;omega,by dsimp only;omega,?_⟩ (by dsimp only;have:=hfp v;omega)
    ·dsimp only;rw [jH i1,M1,y3,i3];omega
    ·dsimp only;rw [y4,i4,jH i1,vAN];simp
    dsimp only;rw [y4,kK];exact y2
  have:gH (gK l p) v=gH (gK l p) (lQ l p):=by
   rcases i2 with h2|h2
   ·rw [show v=lQ l p by omega]
   subst h2;rw [eM (v2 _),eM (by omega)]
  rw [this] at i3 i4 hol;rw [←hP] at i4 hol;refine⟨fun h=>?_,fun h=>?_⟩
  ·rw [i4,i3,hW,show st+(1+((gH (gK l p) (lQ l p)).map f).sum)-1=st+((gH (gK l p) (lQ l p)).map f).sum by omega]
  exact absurd ⟨by omega,by omega⟩ h
def NP(nest:List Loop):Option (List (List Int)):=if f0 nest=true∧wk nest []≤1200∧(pts nest []).length≤120 then some (pts nest []) else none
def Z1:Option (List (List Int))→List (List Int)×Bool
 |none=>([],false)
 |some l=>(l,true)
theorem pt0:kW 0 []:=⟨rfl,by omega,fun x h=>by cases h⟩
theorem uZ{n:Nat}(hn:6600000≤n){nest:List Loop}(h:SmN nest):iL n nest=some (Z1 (NP nest)):=by
 refine Ev.eq ?_;unfold iL;refine aA (xG (by omega) h) ?_;unfold NP;cases hv:f0 nest with
 |false=>exact Ev.some (by simp [Z1])
 |true=>
  have hf:=G5 hv;refine eJ (A7 hf nest n 0 [] 0 [] (by have:=hf.1;omega) rfl (by omega) pt0 (by omega) (by omega) (by simp)) fun r ⟨r1,r2⟩=>?_;by_cases hc:(0:Int)+wk nest []≤1200∧([]:List (List Int)).length+(pts nest []).length≤120
  ·rw [r1 hc,if_pos ⟨rfl,by omega,by simpa using hc.2⟩];exact Ev.some (by simp [Z1])
  rw [r2 hc,if_neg fun h=>hc ⟨by omega,by simpa using h.2.2⟩];exact Ev.some rfl
theorem uW{n:Nat}(hn:6600000≤n){nest:List Loop}(h:SmN nest):iH n nest=some (Z1 (NP nest)):=by
 refine Ev.eq ?_;unfold iH;refine Ev.jn (fun z=>z= !(f0 nest&&decide (wk nest []≤1200))) (fun j hj=>aA (wH (by omega) h) ?_) fun z hz=>?_
 ·cases hv:f0 nest with
  |false=>exact hj _ (by rw [hv];rfl)
  |true=>
   have hf:=G5 hv;refine eJ (zS hf nest n 0 [] 1200 (by have:=hf.1;omega) rfl (by omega) pt0 (by omega) (by omega)) fun r ⟨r1,r2,r3,r4⟩=>hj _ ?_;rw [hv,U9];by_cases hw:wk nest []≤1200
   ·rw [decide_eq_true hw,decide_eq_false (by rw [r1 hw];omega)];rfl
   rw [decide_eq_false hw,decide_eq_true (r2 (by omega))];rfl
 subst hz;unfold NP;cases hv:f0 nest with
 |false=>exact Ev.some (by simp [Z1])
 |true=>
  have hf:=G5 hv;by_cases hw:wk nest []≤1200
  ·rw [decide_eq_true hw];refine eJ (m7 hf nest n 0 [] [] (by have:=hf.1;omega) rfl (by omega) pt0 hw (by simp)) fun r ⟨r1,r2⟩=>?_;by_cases hl:(pts nest []).length≤120
   ·rw [r1 (by simpa using hl),if_pos ⟨rfl,hw,hl⟩];refine aF (fun h=>absurd h (by simp;omega)) fun _=>Ev.some (by simp [Z1])
   have:=r2 (by simp;omega);rw [if_neg fun h=>hl h.2.2];exact aF (fun _=>Ev.some rfl) fun h=>absurd h (by omega)
  rw [decide_eq_false hw,if_neg fun h=>hw h.2.1];exact Ev.some rfl
def jI(s:List UInt8):Bool:=match s with
 | [b]=>decide (65≤b.toNat∧b.toNat≤68)
 |_=>false
theorem o9{s:List UInt8}(h:s.length≠1):jI s=false:=by
 match s,h with
 | [],_=>rfl
 | [b],h=>exact absurd rfl h
 |_::_::_,_=>rfl
theorem aGo{s:List UInt8}(h:s.length=1): ∃b,s=[b]:=by
 match s,h with
 | [b],_=>exact⟨b,rfl⟩
theorem aCj(b:UInt8)(k:Nat)(hk:k<256):(b=UInt8.ofNat k)↔b.toNat=k:=by
 constructor
 ·intro h;rw [h];simp;omega
 intro h;rw [←h];simp
theorem zD(b:UInt8):Lib.contains [65,66,67,68] [b]=decide (65≤b.toNat∧b.toNat≤68):=by
 have e1:(b=65)↔b.toNat=65:=aCj b 65 (by omega);have e2:(b=66)↔b.toNat=66:=aCj b 66 (by omega);have e3:(b=67)↔b.toNat=67:=aCj b 67 (by omega);have e4:(b=68)↔b.toNat=68:=aCj b 68 (by omega);by_cases h1:b=65
 ·subst h1;decide
 by_cases h2:b=66
 ·subst h2;decide
 by_cases h3:b=67
 ·subst h3;decide
 by_cases h4:b=68
 ·subst h4;decide
 rw [e1] at h1;rw [e2] at h2;rw [e3] at h3;rw [e4] at h4;rw [decide_eq_false (by omega)];rw [←e1] at h1;rw [←e2] at h2;rw [←e3] at h3;rw [←e4] at h4;simp [Lib.contains,Lib.index,h1,h2,h3,h4]
theorem q7(n:Nat)(s:List UInt8):lF n s=some (jI s):=by
 unfold lF;by_cases h:s.length=1
 ·obtain⟨b,rfl⟩:=aGo h;simp only [jn,m_contains];rw [if_pos (by simp),zD];rfl
 rw [decide_eq_false (show¬(s.length:Int)=1 by omega),o9 h];rfl
theorem w3(b:UInt8):Op.bytesLess [b] [65]=decide (b.toNat<65):=by simp [Op.bytesLess,UInt8.lt_iff_toNat_lt]
theorem wZ(b:UInt8):(Op.bytesLess [b] [68]||[b]==[68])=decide (b.toNat≤68):=by
 have e:(b=68)↔b.toNat=68:=aCj b 68 (by omega);by_cases h:b=68
 ·subst h;decide
 have h':b.toNat≠68:=fun e'=>h (e.2 e')
 have:([b]==[(68:UInt8)])=false:=by simp [h]
 rw [this,Bool.or_false];simp only [Op.bytesLess,Bool.and_false,Bool.or_false,UInt8.lt_iff_toNat_lt];apply decide_eq_decide.2;show b.toNat<68↔_;omega
def fS(a:Access)(d:Int):Bool:=a.subs.all (fun x=>bD x d)&&(jI a.array&&decide (1≤a.subs.length∧a.subs.length≤2))
theorem aBI{n:Nat}(hn:5500000≤n){a:Affine}(ha:SmA a)(d:Int):f8 n a d=some (!bD a d):=xE hn ha d
theorem oL{n:Nat}(hn:5500000≤n){a:Access}(ha:u7 a.subs)(d:Int):jL n a d=some (fS a d):=by
 obtain⟨h0,h1⟩:=ha;unfold jL;rw [q7,l9];have hc:=mO (n:=n) (f:=fun q0=>f8 n q0 d) (p:=fun a=> !bD a d) (l:=a.subs) (fun x hx=>aBI hn (h1 x hx) d) (by omega) (by omega);simp only [jn,Option.bind];rw [hc];unfold fS;have e:(a.subs.any fun a=> !bD a d)= !(a.subs.all fun a=>bD a d):=by
  rw [vAT];simp
 rw [e];cases jI a.array<;>cases decide (1≤a.subs.length∧a.subs.length≤2)<;>simp
theorem oH{n:Nat}(hn:5500000≤n){a:Access}(ha:u7 a.subs)(d:Int):jF n a d=some (fS a d):=by
 obtain⟨h0,h1⟩:=ha;refine Ev.eq ?_;unfold jF;refine iP (l:=a.subs) (p:=fun _ a=>bD a d) (by omega) (by omega) (fun again i x hx hgo hno=>?_) (fun again hall=>?_) (fun⟨i,x,hx,hp⟩=>?_)
 ·have hi:=(bP.1 hx).1;have hm:=h1 x (cK hx);rw [decide_eq_true (show(i:Int)<(a.subs.length:Int) by omega)];refine cQ (Ev.jn (fun z=>z= !bD x d) (fun j hj=>aA (aI hx) (aA (gG hn x hm) ?_)) fun z hz=>?_)
  ·cases ha:d7 x with
   |false=>exact hj _ (by unfold bD;rw [ha];rfl)
   |true=>exact aA (o4 hn hm) (hj _ (by unfold bD;rw [ha,ltd];simp))
  subst hz;cases hb:bD x d with
  |true=>show Ev (again _) _;rw [aM (by omega)];exact hgo hb
  |false=>exact Ev.some (hno hb)
 ·rw [decide_eq_false (show¬(a.subs.length:Int)<(a.subs.length:Int) by omega)];have e:a.subs.all (fun a=>bD a d)=true:=K3.2 fun c hc=>by obtain⟨i,hi⟩:=vAz hc;exact hall i c hi
  unfold fS;rw [e,U9];refine bE (Ev.jn (fun z=>z=(jI a.array&&decide (1≤a.subs.length∧a.subs.length≤2))) (fun j hj=>?_) fun z hz=>Ev.some hz);by_cases h:a.array.length=1
  ·rw [decide_eq_true (show(a.array.length:Int)=1 by omega)];obtain⟨b,hb⟩:=aGo h;rw [hb] at hj⊢;rw [w3,wZ];show Ev (bif _ then _ else _) _;simp only [jI] at hj⊢;by_cases g1:b.toNat<65
   ·rw [decide_eq_true g1];exact hj _ (by rw [decide_eq_false (show¬(65≤b.toNat∧b.toNat≤68) by omega)];rfl)
   rw [decide_eq_false g1];by_cases g2:b.toNat≤68
   ·rw [decide_eq_true g2];rw [decide_eq_true (show 65≤b.toNat∧b.toNat≤68 by omega)] at hj⊢;refine aF (fun h=>hj _ ?_) fun h=>hj _ ?_
    ·by_cases h2:a.subs.length≤2
     ·rw [decide_eq_true (show(a.subs.length:Int)≤2 by omega),decide_eq_true (by omega)];rfl
     rw [decide_eq_false (show¬(a.subs.length:Int)≤2 by omega),decide_eq_false (by omega)];rfl
    rw [decide_eq_false (by omega)];rfl
   rw [decide_eq_false g2];exact hj _ (by rw [decide_eq_false (show¬(65≤b.toNat∧b.toNat≤68) by omega)];rfl)
  rw [decide_eq_false (show¬(a.array.length:Int)=1 by omega)];exact hj _ (by rw [o9 h];rfl)
 unfold fS;rw [T3.2 ⟨x,cK hx,by rw [hp];simp⟩];rfl
def hJ(a:Affine):Bool:=decide (a.coefs.length=0)&&decide (a.const=0)
def mN(a:Access):Bool:=decide (a.array=[])&&decide (a.subs.length=0)
theorem aFd(k:Nat):decide ((k:Int)=0)=decide (k=0):=decide_eq_decide.2 (by omega)
theorem y0(n:Nat)(a:Affine):jJ n a=some (hJ a):=by unfold jJ hJ;rw [aFd];cases decide (a.coefs.length=0)<;>rfl
theorem M3(n:Nat)(a:Affine):kZ n a=some (hJ a):=by unfold kZ hJ;rw [aFd];cases decide (a.coefs.length=0)<;>rfl
theorem zA(n:Nat)(a:Access):fM n a=some (mN a):=by unfold fM mN;rw [aFd];cases decide (a.array=[])<;>rfl
theorem E3(n:Nat)(a:Access):iT n a=some (mN a):=by unfold iT mN;rw [aFd];cases decide (a.array=[])<;>rfl
def fZ(e:Expr)(d:Int):Bool:=
 if e.kind=2 then decide (e.num=0)&&(mN e.read&&bD e.index d)
 else if e.kind=3 then decide (e.num=0)&&(hJ e.index&&fS e.read d)
 else if e.kind=1 then decide (0≤e.num∧e.num≤99)&&(hJ e.index&&mN e.read)
 else decide (e.num=0)&&(hJ e.index&&mN e.read)
def eC(k:Int):Int:=if k=1∨k=2∨k=3 then 0 else if k=4∨k=5∨k=6 then 2 else-1
theorem M4(n:Nat)(k:Int):qJ n k=some (eC k):=by
 unfold qJ eC;by_cases h1:k=1
 ·subst h1;rfl
 by_cases h2:k=2
 ·subst h2;rfl
 by_cases h3:k=3
 ·subst h3;rfl
 by_cases h4:k=4
 ·subst h4;rfl
 by_cases h5:k=5
 ·subst h5;rfl
 by_cases h6:k=6
 ·subst h6;rfl
 simp [jn,h1,h2,h3,h4,h5,h6]
theorem V3{n:Nat}(hn:5500000≤n){e:Expr}(h1:SmA e.index)(h2:u7 e.read.subs)(d:Int):vA n e d=some (fZ e d):=by
 unfold vA fZ;rw [E3,M3,gG hn _ h1,o4 hn h1,oH hn h2];by_cases k2:e.kind=2
 ·rw [if_pos k2,decide_eq_true k2];simp only [jn,Option.bind,cond_true,bD];cases decide (e.num=0)<;>cases mN e.read<;>cases d7 e.index<;>simp
 rw [if_neg k2,decide_eq_false k2];by_cases k3:e.kind=3
 ·rw [if_pos k3,decide_eq_true k3];simp only [jn,Option.bind,cond_true,cond_false];cases decide (e.num=0)<;>cases hJ e.index<;>simp
 rw [if_neg k3,decide_eq_false k3];by_cases k1:e.kind=1
 ·rw [if_pos k1,decide_eq_true k1];simp only [jn,Option.bind,cond_true,cond_false];by_cases g1:0≤e.num<;>by_cases g2:e.num≤99<;>cases hJ e.index<;>simp [g1,g2]
 rw [if_neg k1,decide_eq_false k1];simp only [jn,Option.bind,cond_false];cases decide (e.num=0)<;>cases hJ e.index<;>simp
end Go.Lift
