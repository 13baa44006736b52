/- Plain facts on sums of products, on ranges, on the points of a nest. -/
import Derived.Test.YtjkdffkjfhkhhaaGreatCLawDraw
set_option maxRecDepth 100000
set_option linter.unusedVariables false
namespace Go.Lift
open Go
def uK:List Int→List Int→Int
 |c::cs,x::xs=>c*x+uK cs xs
 |_,_=>0
def jU(m:Int)(x:Int):Prop:= -m≤x∧x≤m
theorem aHK{a b c x:Int}(ha:0≤a)(hb:0≤b)(h1:jU a c)(h2:jU b x):jU (a*b) (c*x):=by
 obtain⟨p1,p2⟩:=h1;obtain⟨q1,q2⟩:=h2;constructor
 ·have h:=vBr (show 0≤a+c by omega) (show 0≤b+x by omega);have k:=vBr (show 0≤a-c by omega) (show 0≤b-x by omega);have e1:(a+c)*(b+x)=a*b+a*x+c*b+c*x:=by rw [Int.add_mul,vBU,vBU];omega
  have e2:(a-c)*(b-x)=a*b-a*x-c*b+c*x:=by rw [Int.sub_mul,vBV,vBV];omega
  rw [e1] at h;rw [e2] at k;omega
 have h:=vBr (show 0≤a+c by omega) (show 0≤b-x by omega);have k:=vBr (show 0≤a-c by omega) (show 0≤b+x by omega);have e1:(a+c)*(b-x)=a*b-a*x+c*b-c*x:=by rw [Int.add_mul,vBV,vBV];omega
 have e2:(a-c)*(b+x)=a*b+a*x-c*b-c*x:=by rw [Int.sub_mul,vBU,vBU];omega
 rw [e1] at h;rw [e2] at k;omega
theorem aDc(cs:List Int):uK cs []=0:=by cases cs<;>rfl
theorem aER: ∀{cs xs:List Int} {c x:Int},cs[xs.length]? =some c→uK cs (xs++[x])=uK cs xs+c*x
 | [],xs,c,x,h=>by simp at h
 |d::cs,[],c,x,h=>by simp at h;subst h;simp [uK,aDc]
 |d::cs,y::xs,c,x,h=>by
  have h:cs[xs.length]? =some c:=by simpa using h
  simp only [List.cons_append,uK];rw [aER h];omega
theorem aEQ{cs xs:List Int}{i:Nat}{c x:Int}(hc:cs[i]? =some c)(hx:xs[i]? =some x):uK cs (xs.take (i+1))=uK cs (xs.take i)+c*x:=by have hi:=(cH.1 hx).1;rw [xX,hx];exact aER (by simpa [Nat.min_eq_left (Nat.le_of_lt hi)] using hc)
theorem aLw{M:Int}(hM:0≤M): ∀{cs xs:List Int},(∀c∈cs,jU 9 c)→(∀x∈xs,jU M x)→jU (9*M*xs.length) (uK cs xs)
 | [],xs,_,_=>by
  have:0≤9*M*(xs.length:Int):=vBr (by omega) (by omega);simp only [uK,jU];omega
 |d::cs,[],_,_=>by simp [uK,jU]
 |d::cs,y::xs,hc,hx=>by
  have h1:=aLw hM (cs:=cs) (xs:=xs) (fun c h=>hc c (by simp [h])) fun x h=>hx x (by simp [h]);have h2:=aHK (by omega) hM (hc d (by simp)) (hx y (by simp));have e:9*M*((y::xs).length:Int)=9*M*(xs.length:Int)+9*M:=by simp [Int.mul_add]
  rw [e];simp only [uK,jU] at*;omega
def jS(lo hi:Int):List Int:=(List.range (hi-lo).toNat).map (fun(i:Nat)=>lo+(i:Int))
theorem aMJ{lo hi v:Int}:v∈jS lo hi↔lo≤v∧v<hi:=by
 simp only [jS,List.mem_map,List.mem_range];constructor
 ·rintro⟨i,hi,rfl⟩;omega
 intro h;exact⟨(v-lo).toNat,by omega,by omega⟩
theorem iU{lo hi:Int}(h:hi≤lo):jS lo hi=[]:=by unfold jS;rw [show(hi-lo).toNat=0 by omega];rfl
theorem o6{lo hi:Int}(h:lo≤hi):jS lo (hi+1)=jS lo hi++[hi]:=by unfold jS;rw [show(hi+1-lo).toNat=(hi-lo).toNat+1 by omega,vBF,vAN];simp;omega
theorem wS{lo v hi:Int}(h1:lo≤v)(h2:v<hi):jS lo hi=jS lo v++v::jS (v+1) hi:=by
 obtain⟨k,hk⟩: ∃k:Nat,hi=v+1+k:=⟨(hi-v-1).toNat,by omega⟩
 subst hk;clear h2;induction k with
 |zero=>
  rw [show v+1+((0:Nat):Int)=v+1 by omega,o6 h1,iU (T4 _)]
 |succ k ih=>
  rw [show v+1+((k+1:Nat):Int)=v+1+(k:Int)+1 by omega,o6 (by omega),ih,o6 (by omega)];simp
theorem S8{α:Type}{f:α→Option Bool}{p:α→Bool}{l:List α}(hf: ∀x∈l,f x=some (p x)){n:Nat}(hl:l.length<n)(hl2:l.length≤1000000):
  ∃r:Int,aN (fun again2 (x1:Int)=>bif decide (x1<(l.length:Int)) then(Option.bind (ix l x1) fun x3=>Option.bind (f x3) fun x4=>bif x4 then(some x1) else(again2 (wr (x1+1)))) else(some (-1))) n 0=some r∧decide (0≤r)=l.any p:=by
 suffices h:Ev (aN (fun again2 (x1:Int)=>bif decide (x1<(l.length:Int)) then(Option.bind (ix l x1) fun x3=>Option.bind (f x3) fun x4=>bif x4 then(some x1) else(again2 (wr (x1+1)))) else(some (-1))) n 0) (fun r=>decide (0≤r)=l.any p) by exact h
 refine Ev.loop (fun x:Int=>0≤x∧x≤l.length∧(l.take x.toNat).any p=false) (fun x:Int=>l.length-x.toNat) ?_ n 0 ⟨by omega,by omega,by simp⟩ (by simp;omega);rintro again x ⟨h0,h1,h2⟩ hr;refine aH (fun hlt=>?_) fun hge=>?_
 ·obtain⟨y,hy,hy2⟩:=jK h0 hlt;have hm:=cN hy2;refine aA hy (aA (hf y hm) (Ev.cond (fun ht=>Ev.some ?_) fun hfl=>?_))
  ·rw [show l.any p=true from vBL.2 ⟨y,hm,ht⟩];simp [h0]
  rw [aQ (by omega)];refine hr _ ⟨by omega,by omega,?_⟩ (by omega);rw [show(x+1).toNat=x.toNat+1 by omega,xX,hy2];simp [h2,hfl]
 refine Ev.some ?_;have hx:x.toNat=l.length:=by omega
 rw [hx,q7] at h2;rw [h2];simp
theorem tP{f:Int→Option Bool}{p:Int→Bool}{l:List Int}(hf: ∀x∈l,f x=some (p x)){n:Nat}(hl:l.length<n)(hl2:l.length≤1000000):cA n l f=some (l.any p):=by obtain⟨r,h1,h2⟩:=S8 hf hl hl2;unfold cA gG;rw [h1,←h2];rfl
theorem m8{f:Affine→Option Bool}{p:Affine→Bool}{l:List Affine}(hf: ∀x∈l,f x=some (p x)){n:Nat}(hl:l.length<n)(hl2:l.length≤1000000):cG n l f=some (l.any p):=by obtain⟨r,h1,h2⟩:=S8 hf hl hl2;unfold cG fY;rw [h1,←h2];rfl
theorem aBe{f:Stmt→Option Bool}{p:Stmt→Bool}{l:List Stmt}(hf: ∀x∈l,f x=some (p x)){n:Nat}(hl:l.length<n)(hl2:l.length≤1000000):fO n l f=some (l.any p):=by obtain⟨r,h1,h2⟩:=S8 hf hl hl2;unfold fO lU;rw [h1,←h2];rfl
theorem P9{f:Access→Option Bool}{p:Access→Bool}{l:List Access}(hf: ∀x∈l,f x=some (p x)){n:Nat}(hl:l.length<n)(hl2:l.length≤1000000):eV n l f=some (l.any p):=by obtain⟨r,h1,h2⟩:=S8 hf hl hl2;unfold eV kD;rw [h1,←h2];rfl
theorem nY{α:Type}{l:List α}{p:Nat→α→Bool}{Q:Bool→Prop}{body:(Int→Option Bool)→Int→Option Bool}{n:Nat}(hl:l.length<n)(hl2:l.length≤1000000)
  (hstep: ∀again (i:Nat) x,l[i]? =some x→(p i x=true→Ev (again ((i:Int)+1)) Q)→(p i x=false→Q false)→Ev (body again (i:Int)) Q)
  (hend: ∀again,(∀(i:Nat) x,l[i]? =some x→p i x=true)→Ev (body again (l.length:Int)) Q) (hbad:(∃(i:Nat) (x:α),l[i]? =some x∧p i x=false)→Q false):Ev (aN body n 0) Q:=by
 refine Ev.loop (fun x:Int=> ∃i:Nat,x=i∧i≤l.length∧ ∀(j:Nat) y,j<i→l[j]? =some y→p j y=true) (fun x:Int=>l.length-x.toNat) ?_ n 0 ⟨0,rfl,by omega,fun j y h=>by omega⟩ (by simp;omega);rintro again x ⟨i,rfl,hi,ha⟩ hr;by_cases hlt:i<l.length
 ·have hx:=cP hlt;refine hstep again i _ hx (fun hp=>hr _ ⟨i+1,by omega,by omega,fun j y hj hy=>?_⟩ (by omega)) fun hp=>hbad ⟨i,_,hx,hp⟩;by_cases hji:j=i
  ·subst hji;rw [hx] at hy;cases hy;exact hp
  exact ha j y (by omega) hy
 have hil:i=l.length:=by omega
 subst hil;exact hend again fun j y hy=>ha j y (cH.1 hy).1 hy
def bO(a:Affine):Bool:=decide (a.coefs.length=4)&&(decide (-99≤a.const∧a.const≤99)&&a.coefs.all fun c=>decide (-9≤c∧c≤9))
theorem hJ{a:Affine}(h:bO a=true):a.coefs.length=4∧jU 99 a.const∧ ∀c∈a.coefs,jU 9 c:=by simp only [bO,Bool.and_eq_true,decide_eq_true_eq,List.all_eq_true] at h;exact⟨h.1,h.2.1,h.2.2⟩
theorem e9(n:Nat)(x a b:Int):cU n x a b=some (decide (a≤x∧x≤b)):=by unfold cU;by_cases h1:a≤x<;>by_cases h2:x≤b<;>simp [jn,h1,h2]
theorem rX{n:Nat}(hn:5000≤n)(a:Affine)(ha:a.coefs.length≤1000):gS n a=some (bO a):=by
 have hf: ∀x∈a.coefs,gK n x=some (!decide (-9≤x∧x≤9)):=fun x _=>by unfold gK;rw [e9];rfl
 have hc:=tP (n:=n) hf (by omega) (by omega);unfold gS K7;rw [e9];simp only [jn,Option.bind];rw [hc];unfold bO;have e:(a.coefs.any fun x=> !decide (-9≤x∧x≤9))= !(a.coefs.all fun c=>decide (-9≤c∧c≤9)):=by
  rw [vBd];simp
 rw [e];by_cases h1:a.coefs.length=4
 ·rw [decide_eq_true (show(a.coefs.length:Int)=4 by omega),decide_eq_true h1];generalize decide (-99≤a.const∧a.const≤99)=b;cases b<;>simp
 rw [decide_eq_false (show¬(a.coefs.length:Int)=4 by omega),decide_eq_false h1];rfl
theorem uU(n:Nat)(x m:Int)(hm:0≤m∧m≤1000000000):lN n x m=some (decide (-m≤x∧x≤m)):=by
 unfold lN;rw [aQ (by omega)];by_cases h1: -m≤x<;>by_cases h2:x≤m
 ·simp [jn,h1,h2]
 ·simp [jn,h1,h2]
 ·simp [jn,h1,h2]
 simp [jn,h1,h2]
theorem lP{n:Nat}(hn:5000≤n)(a:Affine)(ha:a.coefs.length≤1000):fL n a=some (bO a):=by
 refine Ev.eq ?_;unfold fL;refine nY (l:=a.coefs) (p:=fun _ c=>decide (-9≤c∧c≤9)) (by omega) (by omega) (fun again i x hx hgo hno=>?_) (fun again hall=>?_) (fun⟨i,x,hx,hp⟩=>?_)
 ·rw [decide_eq_true (show(i:Int)<(a.coefs.length:Int) by have:=(cH.1 hx).1;omega)];refine aA (aS hx) (aA (uU n x 9 (by omega)) ?_);have hi:=(cH.1 hx).1;cases hp:decide (-9≤x∧x≤9) with
  |true=>show Ev (again _) _;rw [aQ (by omega)];exact hgo hp
  |false=>exact Ev.some (hno hp)
 ·rw [decide_eq_false (show¬(a.coefs.length:Int)<(a.coefs.length:Int) by omega)];have e:a.coefs.all (fun c=>decide (-9≤c∧c≤9))=true:=vAF.2 fun c hc=>by obtain⟨i,hi⟩:=vAM hc;exact hall i c hi
  refine Ev.cond (fun h=>(by cases h)) fun _=>?_;unfold bO;rw [e];refine Ev.jn (fun z:Bool=>z=(decide (a.coefs.length=4)&&(decide (-99≤a.const∧a.const≤99)&&true))) (fun j hj=>?_) fun z hz=>Ev.some hz;refine aH (fun h=>aA (uU n a.const 99 (by omega)) (hj _ ?_)) fun h=>hj _ ?_
  ·rw [decide_eq_true (show a.coefs.length=4 by omega)];simp
  rw [decide_eq_false (show¬a.coefs.length=4 by omega)];rfl
 unfold bO;have e:a.coefs.all (fun c=>decide (-9≤c∧c≤9))=false:=vAJ.2 ⟨x,cN hx,by rw [hp];simp⟩;rw [e];simp
def cI(a:Affine)(p:List Int):Int:=a.const+uK a.coefs p
def ptB(M:Int)(p:List Int):Prop:= ∀x∈p,jU M x
theorem w7{a:Affine}(ha:bO a=true){p:List Int}(hp:p.length≤4){M:Int}(hM:0≤M∧M≤1000000000)(hB:ptB M p)(i:Nat)(hi:i≤p.length):jU 1000000000000 (a.const+uK a.coefs (p.take i)):=by
 obtain⟨h1,h2,h3⟩:=hJ ha;have h4:=aLw (M:=M) hM.1 (cs:=a.coefs) (xs:=p.take i) h3 fun x hx=>hB x (vAC hx);have h5:(p.take i).length≤4:=by simp;omega
 have h6:9*M*((p.take i).length:Int)≤9*M*4:=Int.mul_le_mul_of_nonneg_left (by omega) (by omega);simp only [jU] at*;omega
theorem aIW{n:Nat}(hn:5000≤n){a:Affine}(ha:bO a=true){p:List Int}(hp:p.length≤4){M:Int}(hM:0≤M∧M≤1000000000)(hB:ptB M p):dJ n a p=some (cI a p):=by
 obtain⟨h1,h2,h3⟩:=hJ ha;refine Ev.eq ?_;unfold dJ;refine Ev.loop (fun x:Int×Int=> ∃i:Nat,x.2=i∧i≤p.length∧x.1=a.const+uK a.coefs (p.take i)) (fun x=>p.length-x.2.toNat) ?_ n _ ⟨0,rfl,by omega,by simp [aDc]⟩ (by simp;omega);rintro again ⟨x,k⟩ ⟨i,hk,hi,hx⟩ hr;dsimp only at hk hx⊢;subst hk;refine aH (fun hlt=>?_) fun hge=>Ev.some ?_
 ·have hlt:i<p.length:=by omega
  have hp2:=cP hlt;have hc2:=cP (show i<a.coefs.length by omega);have hd:=aEQ hc2 hp2;have e1:=w7 ha hp hM hB i hi;have e2:=w7 ha hp hM hB (i+1) (by omega);rw [hd] at e2;have e3:=aHK (by omega) hM.1 (h3 _ (cN hc2)) (hB _ (cN hp2));refine aA (aS hp2) (aA (aS hc2) ?_);simp only [jU] at e1 e2 e3;rw [aQ (n:=a.coefs[i]*p[i]) (by omega),aQ (by omega),aQ (by omega)];refine hr _ ⟨i+1,by dsimp only;omega,by omega,?_⟩ (by dsimp only;omega);dsimp only;rw [hd,hx];omega
 have:i=p.length:=by omega
 rw [hx,this,q7];rfl
theorem aIz{n:Nat}(hn:5000≤n){a:Affine}(ha:bO a=true){p:List Int}(hp:p.length≤4){M:Int}(hM:0≤M∧M≤1000000000)(hB:ptB M p):jG n a p=some (cI a p):=by
 obtain⟨h1,h2,h3⟩:=hJ ha;refine Ev.eq ?_;unfold jG;refine Ev.loop (fun x:Int×Int=> ∃i:Nat,x.2=i∧i≤p.length∧x.1=a.const+uK a.coefs (p.take i)) (fun x=>p.length-x.2.toNat) ?_ n _ ⟨0,rfl,by omega,by simp [aDc]⟩ (by simp;omega);rintro again ⟨x,k⟩ ⟨i,hk,hi,hx⟩ hr;dsimp only at hk hx⊢;subst hk;refine Ev.jn (fun z=>z=decide (i<p.length)) (fun j hj=>aH (fun h=>hj _ ?_) fun h=>hj _ ?_) fun z hz=>?_
 ·rw [decide_eq_true (show i<p.length by omega),decide_eq_true (show(i:Int)<(a.coefs.length:Int) by omega)]
 ·rw [decide_eq_false (show¬i<p.length by omega)]
 subst hz;refine aH (fun hlt=>?_) fun hge=>Ev.some ?_
 ·have hp2:=cP hlt;have hc2:=cP (show i<a.coefs.length by omega);have hd:=aEQ hc2 hp2;have e1:=w7 ha hp hM hB i hi;have e2:=w7 ha hp hM hB (i+1) (by omega);rw [hd] at e2;have e3:=aHK (by omega) hM.1 (h3 _ (cN hc2)) (hB _ (cN hp2));refine aA (aS hc2) (aA (aS hp2) ?_);simp only [jU] at e1 e2 e3;rw [aQ (n:=a.coefs[i]*p[i]) (by omega),aQ (by omega),aQ (by omega)];refine hr _ ⟨i+1,by dsimp only;omega,by omega,?_⟩ (by dsimp only;omega);dsimp only;rw [hd,hx];omega
 have:i=p.length:=by omega
 rw [hx,this,q7];rfl
theorem b8{R:Type}{Q:R→Prop}{A B:Option R}(h:Ev A Q):Ev (bif true then A else B) Q:=h
theorem bZ{R:Type}{Q:R→Prop}{A B:Option R}(h:Ev B Q):Ev (bif false then A else B) Q:=h
def cM:List Int→Nat
 | []=>0
 |c::cs=>if cM cs=0 then(if c=0 then 0 else 1) else cM cs+1
theorem O1: ∀(l:List Int) (c:Int),cM (l++[c])=if c=0 then cM l else l.length+1
 | [],c=>by simp [cM]
 |d::l,c=>by
  have ih:=O1 l c;simp only [List.cons_append,cM,ih];by_cases hc:c=0
  ·simp [hc]
  simp [hc]
theorem O0{l:List Int}{i:Nat}{c:Int}(h:l[i]? =some c):cM (l.take (i+1))=if c=0 then cM (l.take i) else i+1:=by have hi:=(cH.1 h).1;rw [xX,h];show cM (l.take i++[c])=_;rw [O1,uI,Nat.min_eq_left (Nat.le_of_lt hi)]
theorem N9: ∀{l:List Int} {i:Nat} {c:Int},l[i]? =some c→cM l≤i→c=0
 | [],i,c,h,_=>by simp at h
 |d::l,0,c,h,hd=>by
  simp at h;subst h;simp only [cM] at hd;by_cases h1:cM l=0
  ·by_cases h2:d=0
   ·exact h2
   simp [h1,h2] at hd
  simp [h1] at hd
 |d::l,i+1,c,h,hd=>by
  have h:l[i]? =some c:=by simpa using h
  refine N9 h ?_;simp only [cM] at hd;by_cases h1:cM l=0
  ·omega
  rw [if_neg h1] at hd;omega
def SmA(a:Affine):Prop:=a.coefs.length≤1000
def Q7(l:List Affine):Prop:=l.length≤1000∧ ∀a∈l,SmA a
theorem sW{n:Nat}(hn:5000≤n){a:Affine}(ha:SmA a):iQ n a=some (cM a.coefs:Int):=by
 have ha:a.coefs.length≤1000:=ha;refine Ev.eq ?_;unfold iQ;refine Ev.loop (fun x:Int×Int=> ∃i:Nat,x.2=i∧i≤a.coefs.length∧x.1=(cM (a.coefs.take i):Int)) (fun x=>a.coefs.length-x.2.toNat) ?_ n _ ⟨0,rfl,by omega,by simp [cM]⟩ (by simp;omega);rintro again ⟨x,k⟩ ⟨i,hk,hi,hx⟩ hr;dsimp only at hk hx⊢;subst hk;refine aH (fun hlt=>?_) fun hge=>Ev.some ?_
 ·have hlt:i<a.coefs.length:=by omega
  have hc:=cP hlt;have hd:=O0 hc;refine Ev.jn (fun z:Int=>z=(cM (a.coefs.take (i+1)):Int)) (fun j hj=>aA (aS hc) (dI (fun h0=>hj _ ?_) fun h0=>hj _ ?_)) fun z hz=>?_
  ·rw [hd,if_neg h0,aQ (by omega)];omega
  ·rw [hd,if_pos h0,hx]
  rw [aQ (by omega)];exact hr _ ⟨i+1,by dsimp only;omega,by omega,hz⟩ (by dsimp only;omega)
 have:i=a.coefs.length:=by omega
 rw [hx,this,q7]
theorem yP{n:Nat}(hn:5000≤n){a:Affine}(ha:SmA a):eS n a=some (cM a.coefs:Int):=by
 have ha:a.coefs.length≤1000:=ha;refine Ev.eq ?_;unfold eS;refine Ev.loop (fun x:Int=> ∃i:Nat,x=i∧i≤a.coefs.length∧cM a.coefs=cM (a.coefs.take i)) (fun x=>x.toNat) ?_ n _ ⟨a.coefs.length,rfl,by omega,by rw [q7]⟩ (by simp;omega);rintro again x ⟨i,rfl,hi,hx⟩ hr;cases i with
 |zero=>
  refine Ev.jn (fun z=>z=false) (fun j hj=>aH (fun h=>absurd h (by decide)) fun h=>hj _ rfl) fun z hz=>?_;subst hz;exact Ev.some (by rw [hx];rfl)
 |succ i=>
  have hlt:i<a.coefs.length:=by omega
  have hc:=cP hlt;have hd:=O0 hc;have e:wr (((i+1:Nat):Int)-1)=(i:Int):=by rw [aQ (by omega)];omega
  rw [e];refine Ev.jn (fun z=>z=decide (a.coefs[i]=0)) (fun j hj=>aH (fun h=>aA (aS hc) (hj _ rfl)) fun h=>absurd (show(0:Int)<((i+1:Nat):Int) by omega) h) fun z hz=>?_;subst hz;refine aH (fun h0=>?_) fun h0=>Ev.some ?_
  ·exact hr _ ⟨i,rfl,by omega,by rw [hx,hd,if_pos h0]⟩ (by omega)
  rw [hx,hd,if_neg h0]
def b7(a:Affine)(d:Int):Bool:=bO a&&decide ((cM a.coefs:Int)≤d)
def cZ(l:List Affine)(d:Int):Bool:=l.all (fun a=>b7 a d)&&decide (1≤l.length∧l.length≤2)
theorem ltd(a b:Int):decide (a<b)= !decide (b≤a):=by
 by_cases h:a<b
 ·rw [decide_eq_true h,decide_eq_false (by omega)];rfl
 rw [decide_eq_false h,decide_eq_true (by omega)];rfl
theorem N1{n:Nat}(hn:5000≤n){l:List Affine}(hl:Q7 l)(d:Int):u4 n l d=some (cZ l d):=by
 obtain⟨h0,h1⟩:=hl;refine Ev.eq ?_;unfold u4;refine nY (l:=l) (p:=fun _ a=>b7 a d) (by omega) (by omega) (fun again i x hx hgo hno=>?_) (fun again hall=>?_) (fun⟨i,x,hx,hp⟩=>?_)
 ·have hi:=(cH.1 hx).1;have hm:=h1 x (cN hx);rw [decide_eq_true (show(i:Int)<(l.length:Int) by omega)];refine b8 (Ev.jn (fun z=>z= !b7 x d) (fun j hj=>aA (aS hx) (aA (lP hn x hm) ?_)) fun z hz=>?_)
  ·cases ha:bO x with
   |false=>exact hj _ (by unfold b7;rw [ha];rfl)
   |true=>exact aA (sW hn hm) (hj _ (by unfold b7;rw [ha,ltd];simp))
  subst hz;cases hb:b7 x d with
  |true=>show Ev (again _) _;rw [aQ (by omega)];exact hgo hb
  |false=>exact Ev.some (hno hb)
 ·rw [decide_eq_false (show¬(l.length:Int)<(l.length:Int) by omega)];have e:l.all (fun a=>b7 a d)=true:=vAF.2 fun c hc=>by obtain⟨i,hi⟩:=vAM hc;exact hall i c hi
  unfold cZ;rw [e];refine bZ (Ev.jn (fun z=>z=decide (1≤l.length∧l.length≤2)) (fun j hj=>aH (fun h=>hj _ ?_) fun h=>hj _ ?_) fun z hz=>Ev.some (by rw [hz];rfl))
  ·by_cases h2:l.length≤2
   ·rw [decide_eq_true (show(l.length:Int)≤2 by omega),decide_eq_true (by omega)]
   rw [decide_eq_false (show¬(l.length:Int)≤2 by omega),decide_eq_false (by omega)]
  rw [decide_eq_false (by omega)]
 unfold cZ;rw [vAJ.2 ⟨x,cN hx,by rw [hp];simp⟩];rfl
theorem Z3{n:Nat}(hn:5000≤n){a:Affine}(ha:SmA a)(d:Int):iX n a d=some (!b7 a d):=by
 unfold iX;rw [rX hn a ha];simp only [jn,Option.bind];cases hb:bO a with
 |false=>simp [b7,hb]
 |true=>
  rw [yP hn ha];simp only [b7,hb,Bool.not_true,cond_false,Bool.true_and];rw [ltd]
theorem tG(n k:Nat):cU n (k:Int) 1 2=some (decide (1≤k∧k≤2)):=by
 rw [e9];congr 1;by_cases h:1≤k∧k≤2
 ·rw [decide_eq_true h,decide_eq_true (by omega)]
 rw [decide_eq_false h,decide_eq_false (by omega)]
theorem xO{n:Nat}(hn:5000≤n){l:List Affine}(hl:Q7 l)(d:Int):pC n l d=some (cZ l d):=by
 obtain⟨h0,h1⟩:=hl;unfold pC;rw [tG];have hc:=m8 (n:=n) (f:=fun q0=>iX n q0 d) (p:=fun a=> !b7 a d) (l:=l) (fun x hx=>Z3 hn (h1 x hx) d) (by omega) (by omega);simp only [jn,Option.bind];rw [hc];unfold cZ;have e:(l.any fun a=> !b7 a d)= !(l.all fun a=>b7 a d):=by
  rw [vBd];simp
 rw [e];cases decide (1≤l.length∧l.length≤2)<;>simp
def Z1{α:Type}(p:Nat→α→Bool)(l:List α):Bool:=l.zipIdx.all fun q=>p q.2 q.1
theorem pY{α:Type}{p:Nat→α→Bool}{l:List α}(h: ∀(i:Nat) x,l[i]? =some x→p i x=true):Z1 p l=true:=
 vAF.2 fun q hq=>h q.2 q.1 (vBb.1 hq)
theorem nN{α:Type}{p:Nat→α→Bool}{l:List α}{i:Nat}{x:α}(h:l[i]? =some x)(hp:p i x=false):Z1 p l=false:=
 vAJ.2 ⟨(x,i),vBb.2 h,by rw [hp];simp⟩
theorem Z0{α:Type}{p:Nat→α→Bool}{l:List α}(h:Z1 p l=true){i:Nat}{x:α}(hx:l[i]? =some x):p i x=true:=
 vAF.1 h (x,i) (vBb.2 hx)
def kR(nest:List Loop):Bool:=Z1 (fun i l=>cZ l.lo (i:Int)&&cZ l.hi (i:Int)) nest&&decide (nest.length≤4)
def SmN(nest:List Loop):Prop:=nest.length≤1000∧ ∀l∈nest,Q7 l.lo∧Q7 l.hi
theorem Z5{n:Nat}(hn:5000≤n){nest:List Loop}(h:SmN nest):qB n nest=some (kR nest):=by
 obtain⟨h0,h1⟩:=h;refine Ev.eq ?_;unfold qB;refine nY (l:=nest) (p:=fun i l=>cZ l.lo (i:Int)&&cZ l.hi (i:Int)) (by omega) (by omega) (fun again i x hx hgo hno=>?_) (fun again hall=>?_) (fun⟨i,x,hx,hp⟩=>?_)
 ·have hi:=(cH.1 hx).1;obtain⟨m1,m2⟩:=h1 x (cN hx);rw [decide_eq_true (show(i:Int)<(nest.length:Int) by omega)];refine aA (aS hx) (Ev.jn (fun z=>z= !(cZ x.lo (i:Int)&&cZ x.hi (i:Int))) (fun j hj=>aA (xO hn m1 _) ?_) fun z hz=>?_)
  ·cases ha:cZ x.lo (i:Int) with
   |false=>exact hj _ (by rw [ha];rfl)
   |true=>exact aA (xO hn m2 _) (hj _ (by rw [ha];rfl))
  subst hz;cases hb:(cZ x.lo (i:Int)&&cZ x.hi (i:Int)) with
  |true=>show Ev (again _) _;rw [aQ (by omega)];exact hgo hb
  |false=>exact Ev.some (hno hb)
 ·rw [decide_eq_false (show¬(nest.length:Int)<(nest.length:Int) by omega)];refine Ev.some ?_;unfold kR;rw [pY hall,vAV];exact decide_eq_decide.2 (by omega)
 unfold kR;rw [nN hx hp];rfl
theorem V2{n:Nat}(hn:5000≤n){nest:List Loop}(h:SmN nest):pW n nest=some (kR nest):=by
 obtain⟨h0,h1⟩:=h;unfold pW;by_cases h4:nest.length≤4
 ·rw [decide_eq_true (show(nest.length:Int)≤4 by omega)];refine Ev.eq ?_;refine nY (l:=nest) (p:=fun i l=>cZ l.lo (i:Int)&&cZ l.hi (i:Int)) (by omega) (by omega) (fun again i x hx hgo hno=>?_) (fun again hall=>?_) (fun⟨i,x,hx,hp⟩=>?_)
  ·have hi:=(cH.1 hx).1;obtain⟨m1,m2⟩:=h1 x (cN hx);rw [decide_eq_true (show(i:Int)<(nest.length:Int) by omega)];refine Ev.jn (fun z=>z=true) (fun j hj=>b8 (hj _ rfl)) fun z hz=>?_;subst hz;refine b8 (Ev.jn (fun z=>z= !(cZ x.lo (i:Int)&&cZ x.hi (i:Int))) (fun j hj=>aA (aS hx) (aA (N1 hn m1 _) ?_)) fun z hz=>?_)
   ·cases ha:cZ x.lo (i:Int) with
    |false=>exact hj _ (by rw [ha];rfl)
    |true=>exact aA (N1 hn m2 _) (hj _ (by rw [ha];rfl))
   subst hz;cases hb:(cZ x.lo (i:Int)&&cZ x.hi (i:Int)) with
   |true=>show Ev (again _) _;rw [aQ (by omega)];exact hgo hb
   |false=>exact Ev.some (hno hb)
  ·rw [decide_eq_false (show¬(nest.length:Int)<(nest.length:Int) by omega)];refine Ev.jn (fun z=>z=false) (fun j hj=>bZ (hj _ rfl)) fun z hz=>?_;subst hz;refine Ev.some ?_;unfold kR;rw [pY hall,decide_eq_true h4];rfl
  unfold kR;rw [nN hx hp];rfl
 obtain⟨k,rfl⟩: ∃k,n=k+1:=⟨n-1,by omega⟩
 rw [decide_eq_false (show¬(nest.length:Int)≤4 by omega)];unfold kR;rw [decide_eq_false h4,vBj];simp only [aN,jn];cases decide ((0:Int)<(nest.length:Int))<;>rfl
def mx:List Int→Int
 | []=>0
 |x::xs=>xs.foldl max x
def mn:List Int→Int
 | []=>0
 |x::xs=>xs.foldl min x
theorem aMW{l:List Int}(h:l≠[])(x:Int):mx (l++[x])=max (mx l) x:=by
 cases l with
 |nil=>exact absurd rfl h
 |cons a l=>simp [mx,List.foldl_append]
theorem aMY{l:List Int}(h:l≠[])(x:Int):mn (l++[x])=min (mn l) x:=by
 cases l with
 |nil=>exact absurd rfl h
 |cons a l=>simp [mn,List.foldl_append]
theorem aNH: ∀(l:List Int) (a:Int),a≤l.foldl max a
 | [],a=>T4 _
 |x::l,a=>Int.le_trans (Int.le_max_left a x) (aNH l (max a x))
theorem aNI: ∀(l:List Int) (a:Int),l.foldl min a≤a
 | [],a=>T4 _
 |x::l,a=>Int.le_trans (aNI l (min a x)) (Int.min_le_left a x)
def evs(l:List Affine)(p:List Int):List Int:=l.map fun a=>cI a p
def kL(l:Loop)(p:List Int):Int:=mx (evs l.lo p)
def pQ(l:Loop)(p:List Int):Int:=mn (evs l.hi p)
def q5(k:Nat)(p:List Int):Prop:=p.length=k∧k≤4∧ptB (100*40^k) p
theorem W4{k:Nat}(h:k≤4):(0:Int)≤100*40^k∧(100:Int)*40^k≤1000000000:=by
 match k,h with
 |0,_=>decide
 |1,_=>decide
 |2,_=>decide
 |3,_=>decide
 |4,_=>decide
theorem uT{l:List Affine}{d:Int}(h:cZ l d=true):1≤l.length∧l.length≤2∧ ∀a∈l,bO a=true:=by
 simp only [cZ,Bool.and_eq_true,decide_eq_true_eq,List.all_eq_true] at h;refine⟨h.2.1,h.2.2,fun a ha=>?_⟩
 have:=h.1 a ha;simp only [b7,Bool.and_eq_true] at this;exact this.1
theorem aKW{a:Affine}(ha:bO a=true){k:Nat}{p:List Int}(hp:q5 k p)(hk:k≤3): -(40*(100*40^k))≤cI a p∧cI a p≤40*(100*40^k):=by
 obtain⟨h1,h2,h3⟩:=hJ ha;obtain⟨p1,p2,p3⟩:=hp;obtain⟨q1,q2⟩:=W4 (k:=k) (by omega);have hq:(100:Int)≤100*40^k:=by
  match k,hk with
  |0,_=>decide
  |1,_=>decide
  |2,_=>decide
  |3,_=>decide
 generalize (100*40^k:Int)=M at*;have h4:=aLw (M:=M) q1 (cs:=a.coefs) (xs:=p) h3 fun x hx=>p3 x hx;have h6:9*M*(p.length:Int)≤9*M*3:=Int.mul_le_mul_of_nonneg_left (by omega) (by omega);simp only [jU] at*;unfold cI;omega
theorem aJ3{n:Nat}(hn:5000≤n){a:Affine}(ha:bO a=true){k:Nat}{p:List Int}(hp:q5 k p):jG n a p=some (cI a p):=
 aIz hn ha (by have:=hp.1;have:=hp.2.1;omega) (W4 hp.2.1) hp.2.2
theorem aKM{n:Nat}(hn:5000≤n){a:Affine}(ha:bO a=true){k:Nat}{p:List Int}(hp:q5 k p):dJ n a p=some (cI a p):=
 aIW hn ha (by have:=hp.1;have:=hp.2.1;omega) (W4 hp.2.1) hp.2.2
theorem mK{l:List Affine}{p:List Int}{i:Nat}{a:Affine}(h:l[i]? =some a):(evs l p)[i]? =some (cI a p):=by unfold evs;rw [List.getElem?_map,h];rfl
theorem S4(l:List Affine)(p:List Int):(evs l p).length=l.length:=qL ..
theorem aHw{α:Type}{l:List α}{i:Nat}(h:1≤i)(hl:1≤l.length):l.take i≠[]:=by
 intro e
 have:(l.take i).length=0:=by rw [e];rfl
 rw [uI] at this;omega
theorem aHJ{l:List Int}{i:Nat}{x:Int}(h:l[i]? =some x)(hi:1≤i):mx (l.take (i+1))=max (mx (l.take i)) x:=by have:=(cH.1 h).1;rw [xX,h];exact aMW (aHw hi (by omega)) x
theorem aHM{l:List Int}{i:Nat}{x:Int}(h:l[i]? =some x)(hi:1≤i):mn (l.take (i+1))=min (mn (l.take i)) x:=by have:=(cH.1 h).1;rw [xX,h];exact aMY (aHw hi (by omega)) x
theorem aGg{l:List Int}{x:Int}(h:l[0]? =some x):mx (l.take 1)=x:=by
 cases l with
 |nil=>simp at h
 |cons a l=>simp at h;subst h;rfl
theorem aGh{l:List Int}{x:Int}(h:l[0]? =some x):mn (l.take 1)=x:=by
 cases l with
 |nil=>simp at h
 |cons a l=>simp at h;subst h;rfl
theorem U8{n:Nat}(hn:5000≤n){l:Loop}{d d':Int}(h1:cZ l.lo d=true)(h2:cZ l.hi d'=true){k:Nat}{p:List Int}(hp:q5 k p):rH n l p=some (kL l p,pQ l p):=by
 obtain⟨a1,a2,a3⟩:=uT h1;obtain⟨b1,b2,b3⟩:=uT h2;have g1:=cP (show 0<l.lo.length by omega);have g2:=cP (show 0<l.hi.length by omega);refine Ev.eq ?_;unfold rH;refine aA (aS (i:=0) g1) (aA (aJ3 hn (a3 _ (cN g1)) hp) (aA (aS (i:=0) g2) (aA (aJ3 hn (b3 _ (cN g2)) hp) ?_)));refine Ev.loop (fun x:Int×Int=> ∃i:Nat,x.2=i∧1≤i∧i≤l.lo.length∧x.1=mx ((evs l.lo p).take i)) (fun x=>l.lo.length-x.2.toNat) ?_ n _ ⟨1,rfl,by omega,by omega,(aGg (mK g1)).symm⟩ (by dsimp only;omega);rintro again ⟨x,z⟩ ⟨i,hz,hi1,hi,hx⟩ hr;dsimp only at hz hx⊢;subst hz;refine aH (fun hlt=>?_) fun hge=>?_
 ·have g:=cP (show i<l.lo.length by omega);have e:=aHJ (mK (p:=p) g) hi1;refine Ev.jn (fun z=>z=mx ((evs l.lo p).take (i+1))) (fun j hj=>aA (aS g) (aA (aJ3 hn (a3 _ (cN g)) hp) (aH (fun h=>hj _ ?_) fun h=>hj _ ?_))) fun z hz=>?_
  ·rw [e,←hx];omega
  ·rw [e,←hx];omega
  rw [aQ (by omega)];exact hr _ ⟨i+1,by dsimp only;omega,by omega,by omega,hz⟩ (by dsimp only;omega)
 have hie:i=l.lo.length:=by omega
 have hx':x=kL l p:=by rw [hx,hie,←S4 l.lo p,q7];rfl
 refine Ev.loop (fun x:Int×Int=> ∃i:Nat,x.2=i∧1≤i∧i≤l.hi.length∧x.1=mn ((evs l.hi p).take i)) (fun x=>l.hi.length-x.2.toNat) ?_ n _ ⟨1,rfl,by omega,by omega,(aGh (mK g2)).symm⟩ (by dsimp only;omega);rintro again2 ⟨y,z⟩ ⟨i,hz,hi1,hi,hy⟩ hr2;dsimp only at hz hy⊢;subst hz;refine aH (fun hlt=>?_) fun hge=>Ev.some ?_
 ·have g:=cP (show i<l.hi.length by omega);have e:=aHM (mK (p:=p) g) hi1;refine Ev.jn (fun z=>z=mn ((evs l.hi p).take (i+1))) (fun j hj=>aA (aS g) (aA (aJ3 hn (b3 _ (cN g)) hp) (aH (fun h=>hj _ ?_) fun h=>hj _ ?_))) fun z hz=>?_
  ·rw [e,←hy];omega
  ·rw [e,←hy];omega
  rw [aQ (by omega)];exact hr2 _ ⟨i+1,by dsimp only;omega,by omega,by omega,hz⟩ (by dsimp only;omega)
 have hie:i=l.hi.length:=by omega
 rw [hx',hy,hie,←S4 l.hi p,q7];rfl
theorem aIS{n:Nat}(hn:5000≤n){l:Loop}{d d':Int}(h1:cZ l.lo d=true)(h2:cZ l.hi d'=true){k:Nat}{p:List Int}(hp:q5 k p):qC n l p=some (kL l p,pQ l p):=by
 obtain⟨a1,a2,a3⟩:=uT h1;obtain⟨b1,b2,b3⟩:=uT h2;have g1:=cP (show 0<l.lo.length by omega);have g2:=cP (show 0<l.hi.length by omega);refine Ev.eq ?_;unfold qC;refine aA (aS (i:=0) g1) (aA (aKM hn (a3 _ (cN g1)) hp) (aA (aS (i:=0) g2) (aA (aKM hn (b3 _ (cN g2)) hp) ?_)));refine Ev.loop (fun x:Int×Int=> ∃i:Nat,x.2=i∧i≤l.lo.length∧x.1=mx ((evs l.lo p).take (max i 1))) (fun x=>l.lo.length-x.2.toNat) ?_ n _ ⟨0,rfl,by omega,(aGg (mK g1)).symm⟩ (by dsimp only;omega);rintro again ⟨x,z⟩ ⟨i,hz,hi,hx⟩ hr;dsimp only at hz hx⊢;subst hz;refine aH (fun hlt=>?_) fun hge=>?_
 ·have g:=cP (show i<l.lo.length by omega);refine aA (aS g) (aA (aKM hn (a3 _ (cN g)) hp) ?_);rw [aQ (by omega)];refine hr _ ⟨i+1,by dsimp only;omega,by omega,?_⟩ (by dsimp only;omega);dsimp only;rw [show max (i+1) 1=i+1 by omega];cases i with
  |zero=>rw [hx,show max 0 1=1 by rfl,mZ,aGg (mK g)];omega
  |succ i=>rw [aHJ (mK (p:=p) g) (by omega),hx,show max (i+1) 1=i+1 by omega]
 have hie:i=l.lo.length:=by omega
 have hx':x=kL l p:=by rw [hx,hie,Nat.max_eq_left (by omega),←S4 l.lo p,q7];rfl
 refine Ev.loop (fun x:Int×Int=> ∃i:Nat,x.2=i∧i≤l.hi.length∧x.1=mn ((evs l.hi p).take (max i 1))) (fun x=>l.hi.length-x.2.toNat) ?_ n _ ⟨0,rfl,by omega,(aGh (mK g2)).symm⟩ (by dsimp only;omega);rintro again2 ⟨y,z⟩ ⟨i,hz,hi,hy⟩ hr2;dsimp only at hz hy⊢;subst hz;refine aH (fun hlt=>?_) fun hge=>Ev.some ?_
 ·have g:=cP (show i<l.hi.length by omega);refine aA (aS g) (aA (aKM hn (b3 _ (cN g)) hp) ?_);rw [aQ (by omega)];refine hr2 _ ⟨i+1,by dsimp only;omega,by omega,?_⟩ (by dsimp only;omega);dsimp only;rw [show max (i+1) 1=i+1 by omega];cases i with
  |zero=>rw [hy,show max 0 1=1 by rfl,mZ,aGh (mK g)];omega
  |succ i=>rw [aHM (mK (p:=p) g) (by omega),hy,show max (i+1) 1=i+1 by omega]
 have hie:i=l.hi.length:=by omega
 rw [hx',hy,hie,Nat.max_eq_left (by omega),←S4 l.hi p,q7];rfl
theorem R4{l:Loop}{d d':Int}(h1:cZ l.lo d=true)(h2:cZ l.hi d'=true){k:Nat}{p:List Int}(hp:q5 k p)(hk:k≤3){v:Int}(hv:kL l p≤v∧v<pQ l p):q5 (k+1) (p++[v]):=by
 obtain⟨a1,a2,a3⟩:=uT h1;obtain⟨b1,b2,b3⟩:=uT h2;have e1: -(40*(100*40^k))≤kL l p:=by
  cases hl:l.lo with
  |nil=>rw [hl] at a1;simp at a1
  |cons a as=>
   have:=(aKW (a3 a (by rw [hl];simp)) hp hk).1;unfold kL evs;rw [hl];exact Int.le_trans this (aNH _ _)
 have e2:pQ l p≤40*(100*40^k):=by
  cases hl:l.hi with
  |nil=>rw [hl] at b1;simp at b1
  |cons a as=>
   have:=(aKW (b3 a (by rw [hl];simp)) hp hk).2;unfold pQ evs;rw [hl];exact Int.le_trans (aNI _ _) this
 obtain⟨p1,p2,p3⟩:=hp;have e3:(100*40^(k+1):Int)=40*(100*40^k):=by rw [Int.pow_succ];omega
 have q:=(W4 (k:=k) (by omega)).1;refine⟨by simp [p1],by omega,fun x hx=>?_⟩;rw [e3];rcases xJ.1 hx with h|h
 ·have:=p3 x h;simp only [jU] at this⊢;omega
 simp at h;subst h;simp only [jU];omega
def pts:List Loop→List Int→List (List Int)
 | [],p=>[p]
 |l::ls,p=>(jS (kL l p) (pQ l p)).flatMap fun v=>pts ls (p++[v])
def wk:List Loop→List Int→Int
 | [],_=>1
 |l::ls,p=>1+((jS (kL l p) (pQ l p)).map fun v=>wk ls (p++[v])).sum
theorem qN{α:Type}(f:α→Int): ∀(l:List α),(∀x∈l,1≤f x)→(l.length:Int)≤(l.map f).sum
 | [],_=>by simp
 |x::l,h=>by have h1:=qN f l fun y hy=>h y (by simp [hy]);have h2:=h x (by simp);simp only [List.map_cons,List.sum_cons,List.length_cons];omega
theorem aCu: ∀(ls:List Loop) (p:List Int),1≤wk ls p
 | [],p=>T4 _
 |l::ls,p=>by have:=qN (fun v=>wk ls (p++[v])) (jS (kL l p) (pQ l p)) fun v _=>aCu ls _;simp only [wk];omega
def Fit(nest:List Loop):Prop:=nest.length≤4∧ ∀(i:Nat) l,nest[i]? =some l→cZ l.lo (i:Int)=true∧cZ l.hi (i:Int)=true
theorem aC0{nest:List Loop}(h:kR nest=true):Fit nest:=by
 simp only [kR,Bool.and_eq_true,decide_eq_true_eq] at h;refine⟨h.2,fun i l hl=>?_⟩
 have:=Z0 h.1 hl;simpa [Bool.and_eq_true] using this
theorem w8{nest:List Loop}{k:Nat}{l:Loop}{ls:List Loop}(h:nest.drop k=l::ls):nest[k]? =some l∧nest.drop (k+1)=ls∧k<nest.length:=by
 have h1:(nest.drop k)[0]? =some l:=by rw [h];rfl
 rw [vAD,vBv] at h1;refine⟨h1,?_,(cH.1 h1).1⟩
 have:(nest.drop k).drop 1=ls:=by rw [h];rfl
 rwa [List.drop_drop] at this
theorem F0{nest:List Loop}{k:Nat}(h:nest.drop k=[])(hk:k≤nest.length):k=nest.length:=by
 have:(nest.drop k).length=0:=by rw [h];rfl
 rw [vAU] at this;omega
theorem d5(p:List Int)(h:p.length≤1000):app [] p=some p:=by rw [bU (by simp;omega)];rfl
theorem aDZ(l:List Int)(f:Int→Int)(v:Int):((l++[v]).map f).sum=(l.map f).sum+f v:=by simp
theorem aMK{lo v:Int}(h:lo≤v):((jS lo v).length:Int)=v-lo:=by unfold jS;simp;omega
theorem aBx{nest:List Loop}(hf:Fit nest): ∀(ls:List Loop) (n k:Nat) (p:List Int) (most:Int),5000+ls.length≤n→nest.drop k=ls→k≤nest.length→q5 k p→0≤most→most≤1200→
  Ev (s_l2Work n nest p most) (fun r=>(wk ls p≤most→r=wk ls p)∧(most<wk ls p→most<r)∧1≤r∧r≤most+1)
 | [],n,k,p,most,hn,hd,hk,hp,h0,h1=>by
  obtain⟨n,rfl⟩: ∃j,n=j+1:=⟨n-1,by omega⟩
  have hk':=F0 hd hk;have hpl:=hp.1;unfold s_l2Work;rw [decide_eq_true (show(p.length:Int)=(nest.length:Int) by omega)];exact Ev.some ⟨fun _=>rfl,fun h=>by simp only [wk] at h;omega,by omega,by omega⟩
 |l::ls,n,k,p,most,hn,hd,hk,hp,h0,h1=>by
  obtain⟨n,rfl⟩: ∃j,n=j+1:=⟨n-1,by omega⟩
  obtain⟨d1,d2,d3⟩:=w8 hd;obtain⟨s1,s2⟩:=hf.2 k l d1;have hpl:=hp.1;have hk3:k≤3:=by have:=hf.1;omega
  simp only [List.length_cons] at hn;unfold s_l2Work;rw [decide_eq_false (show¬(p.length:Int)=(nest.length:Int) by omega)];refine bZ (aA (x:=l) (by rw [hpl];exact aS d1) (aA (U8 (by omega) s1 s2 hp) ?_));let f:Int→Int:=fun v=>wk ls (p++[v]);have hfp: ∀v,1≤f v:=fun v=>aCu _ _;have hW:wk (l::ls) p=1+((jS (kL l p) (pQ l p)).map f).sum:=rfl;refine Ev.loop (fun x:Int×Int=>kL l p≤x.2∧(x.2≤pQ l p∨x.2=kL l p)∧(1+((jS (kL l p) x.2).map f).sum≤most→x.1=1+((jS (kL l p) x.2).map f).sum)∧(most<1+((jS (kL l p) x.2).map f).sum→most<x.1)∧1≤x.1∧x.1≤most+1)
   (fun x=>(most+1-x.1).toNat) ?_ n _ ⟨T4 _,.inr rfl,fun _=>by rw [iU (T4 _)];rfl,fun h=>by rw [iU (T4 _)] at h;simp at h;dsimp only;omega,by dsimp only;omega,by dsimp only;omega⟩ (by dsimp only;omega)
  rintro again ⟨x,v⟩ ⟨i1,i2,i3,i4,i5,i6⟩ hr;dsimp only at i1 i2 i3 i4 i5 i6⊢;refine Ev.jn (fun z=>z=decide (v<pQ l p∧x≤most)) (fun j hj=>aH (fun h=>hj _ ?_) fun h=>hj _ ?_) fun z hz=>?_
  ·by_cases hx:x≤most
   ·rw [decide_eq_true hx,decide_eq_true ⟨h,hx⟩]
   rw [decide_eq_false hx,decide_eq_false fun h=>hx h.2]
  ·rw [decide_eq_false fun h'=>h h'.1]
  subst hz;refine aH (fun⟨hv,hx⟩=>?_) fun hno=>Ev.some ?_
  ·have hsum:x=1+((jS (kL l p) v).map f).sum:=i3 (by apply Int.not_lt.1;intro h;have:=i4 h;omega);have hp':=R4 s1 s2 hp hk3 ⟨i1,hv⟩;have e1:wr (most-x)=most-x:=by rw [aQ (by omega)]
   rw [e1];refine aA (d5 p (by omega)) (aA (bU (by simp;omega)) (aM (aBx hf ls n (k+1) (p++[v]) (most-x) (by omega) d2 (by omega) hp' (by omega) (by omega)) fun r ⟨r1,r2,r3,r4⟩=>?_));have hvb:v<pQ l p:=hv;have hvr: -1000000000≤v∧v≤1000000000:=by
    have h9:=hp'.2.2 v (by simp);have h8:=W4 hp'.2.1;simp only [jU] at h9;omega
   rw [aQ (n:=v+1) (by omega),aQ (n:=x+r) (by omega)];have hs:1+((jS (kL l p) (v+1)).map f).sum=x+f v:=by rw [o6 i1,aDZ,hsum];omega
   refine hr _ ⟨by dsimp only;omega,.inl (by dsimp only;omega),?_,?_,by dsimp only;omega,by dsimp only;omega⟩ (by dsimp only;omega)
   ·dsimp only;rw [hs];intro h
    have:r=f v:=r1 (show f v≤most-x by omega);omega
   dsimp only;rw [hs];intro h
   have:most-x<r:=r2 (show most-x<f v by omega);omega
  have hmono:1+((jS (kL l p) v).map f).sum≤wk (l::ls) p∧(pQ l p≤v→1+((jS (kL l p) v).map f).sum=wk (l::ls) p):=by
   rw [hW];by_cases h:v<pQ l p
   ·refine⟨?_,fun h'=>by omega⟩;rw [wS i1 h,vAN,List.sum_append,vBT,List.sum_cons]
    have:=qN f (jS (v+1) (pQ l p)) fun y _=>hfp y
    have:=hfp v;omega
   have:jS (kL l p) v=jS (kL l p) (pQ l p):=by
    rcases i2 with h2|h2
    ·rw [show v=pQ l p by omega]
    subst h2;rw [iU (T4 _),iU (by omega)]
   rw [this];exact⟨T4 _,fun _=>rfl⟩
  refine⟨fun h=>?_,fun h=>?_,i5,i6⟩
  ·have hx:=i3 (by omega);rw [hx];apply hmono.2;apply Int.not_lt.1;intro hv;exact hno ⟨hv,by omega⟩
  apply Int.not_le.1;intro hx;have hv:pQ l p≤v:=by apply Int.not_lt.1;intro hv;exact hno ⟨hv,hx⟩
  have:=i4 (by rw [hmono.2 hv];exact h);omega
theorem uV{nest:List Loop}(hf:Fit nest): ∀(ls:List Loop) (n k:Nat) (p:List Int) (out:List (List Int)),5000+ls.length≤n→nest.drop k=ls→k≤nest.length→q5 k p→wk ls p≤1200→out.length≤120→
  Ev (s_l2Points n out nest p) (fun r=>(out.length+(pts ls p).length≤120→r=out++pts ls p)∧(120<out.length+(pts ls p).length→120<r.length))
 | [],n,k,p,out,hn,hd,hk,hp,h0,h1=>by
  obtain⟨n,rfl⟩: ∃j,n=j+1:=⟨n-1,by omega⟩
  have hk':=F0 hd hk;have hpl:=hp.1;have hf1:=hf.1;unfold s_l2Points;rw [decide_eq_true (show(p.length:Int)=(nest.length:Int) by omega)];refine b8 (aA (d5 p (by omega)) (aA (bU (by simp;omega)) (Ev.some ⟨fun _=>rfl,fun h=>by simp [pts] at h ⊢; omega⟩)))
 |l::ls,n,k,p,out,hn,hd,hk,hp,h0,h1=>by
  obtain⟨n,rfl⟩: ∃j,n=j+1:=⟨n-1,by omega⟩
  obtain⟨d1,d2,d3⟩:=w8 hd;obtain⟨s1,s2⟩:=hf.2 k l d1;have hpl:=hp.1;have hf1:=hf.1;have hk3:k≤3:=by omega
  simp only [List.length_cons] at hn;unfold s_l2Points;rw [decide_eq_false (show¬(p.length:Int)=(nest.length:Int) by omega)];refine bZ (aA (x:=l) (by rw [hpl];exact aS d1) (aA (U8 (by omega) s1 s2 hp) ?_));let f:Int→Int:=fun v=>wk ls (p++[v]);have hfp: ∀v,1≤f v:=fun v=>aCu _ _;have hW:wk (l::ls) p=1+((jS (kL l p) (pQ l p)).map f).sum:=rfl;let g:Int→List (List Int):=fun v=>pts ls (p++[v]);have hP:pts (l::ls) p=(jS (kL l p) (pQ l p)).flatMap g:=rfl;have hlen:kL l p≤pQ l p→pQ l p-kL l p≤1199:=fun hle=>by
   have:=qN f (jS (kL l p) (pQ l p)) fun y _=>hfp y
   have:=aMK hle;omega
  refine Ev.loop (fun x:List (List Int)×Int=>kL l p≤x.2∧(x.2≤pQ l p∨x.2=kL l p)∧(out.length+((jS (kL l p) x.2).flatMap g).length≤120→x.1=out++(jS (kL l p) x.2).flatMap g)∧(120<out.length+((jS (kL l p) x.2).flatMap g).length→120<x.1.length))
   (fun x=>(pQ l p-x.2).toNat) ?_ n _ ⟨T4 _,.inr rfl,fun _=>by rw [iU (T4 _)];simp,fun h=>by rw [iU (T4 _)] at h;simp at h;omega⟩ (by dsimp only;omega)
  rintro again ⟨x,v⟩ ⟨i1,i2,i3,i4⟩ hr;dsimp only at i1 i2 i3 i4⊢;refine Ev.jn (fun z=>z=decide (v<pQ l p∧x.length≤120)) (fun j hj=>aH (fun h=>hj _ ?_) fun h=>hj _ ?_) fun z hz=>?_
  ·by_cases hx:x.length≤120
   ·rw [decide_eq_true (show(x.length:Int)≤120 by omega),decide_eq_true ⟨h,hx⟩]
   rw [decide_eq_false (show¬(x.length:Int)≤120 by omega),decide_eq_false fun h=>hx h.2]
  ·rw [decide_eq_false fun h'=>h h'.1]
  subst hz;refine aH (fun⟨hv,hx⟩=>?_) fun hno=>Ev.some ?_
  ·have hxe:x=out++(jS (kL l p) v).flatMap g:=i3 (by apply Nat.not_lt.1;intro h;have:=i4 h;omega);have hp':=R4 s1 s2 hp hk3 ⟨i1,hv⟩;have hwc:f v≤1200:=by
    rw [hW,wS i1 hv,vAN,List.sum_append,vBT,List.sum_cons] at h0
    have:=qN f (jS (v+1) (pQ l p)) fun y _=>hfp y
    have:=qN f (jS (kL l p) v) fun y _=>hfp y;omega
   refine aA (d5 p (by omega)) (aA (bU (by simp;omega)) (aM (uV hf ls n (k+1) (p++[v]) x (by omega) d2 (by omega) hp' hwc hx) fun r ⟨r1,r2⟩=>?_));have hvr: -1000000000≤v∧v≤1000000000:=by
    have h9:=hp'.2.2 v (by simp);have h8:=W4 hp'.2.1;simp only [jU] at h9;omega
   rw [aQ (n:=v+1) (by omega)];have hs:(jS (kL l p) (v+1)).flatMap g=(jS (kL l p) v).flatMap g++g v:=by rw [o6 i1,vAY];simp
   refine hr _ ⟨by dsimp only;omega,.inl (by dsimp only;omega),?_,?_⟩ (by dsimp only;omega)
   ·dsimp only;rw [hs];intro h;simp only [List.length_append] at h;have hl:x.length=out.length+((jS (kL l p) v).flatMap g).length:=by rw [hxe,pU]
    rw [r1 (show x.length+(g v).length≤120 by omega),hxe,vAL]
   dsimp only;rw [hs];intro h;simp only [List.length_append] at h;have hl:x.length=out.length+((jS (kL l p) v).flatMap g).length:=by rw [hxe,pU]
   exact r2 (show 120<x.length+(g v).length by omega)
  have hmono:((jS (kL l p) v).flatMap g).length≤(pts (l::ls) p).length∧(pQ l p≤v→(jS (kL l p) v).flatMap g=pts (l::ls) p):=by
   rw [hP];by_cases h:v<pQ l p
   ·refine⟨?_,fun h'=>by omega⟩;rw [wS i1 h,vAY,pU];omega
   have:jS (kL l p) v=jS (kL l p) (pQ l p):=by
    rcases i2 with h2|h2
    ·rw [show v=pQ l p by omega]
    subst h2;rw [iU (T4 _),iU (by omega)]
   rw [this];exact⟨jQ _,fun _=>rfl⟩
  refine⟨fun h=>?_,fun h=>?_⟩
  ·have hx:=i3 (by omega);rw [hx,hmono.2];apply Int.not_lt.1;intro hv;exact hno ⟨hv,by rw [hx,pU];omega⟩
  apply Nat.not_le.1;intro hx;have hv:pQ l p≤v:=by apply Int.not_lt.1;intro hv;exact hno ⟨hv,hx⟩
  have:=i4 (by rw [hmono.2 hv];exact h);omega
theorem aB2{nest:List Loop}(hf:Fit nest): ∀(ls:List Loop) (n k:Nat) (p:List Int) (st:Int) (out:List (List Int)),5000+ls.length≤n→nest.drop k=ls→k≤nest.length→q5 k p→0≤st→st≤1199→out.length≤120→
  Ev (i_walking_walk n ⟨nest,st,out⟩ p) (fun r=>(st+wk ls p≤1200∧out.length+(pts ls p).length≤120→r=(true,⟨nest,st+wk ls p-1,out++pts ls p⟩))∧(¬(st+wk ls p≤1200∧out.length+(pts ls p).length≤120)→r.1=false))
 | [],n,k,p,st,out,hn,hd,hk,hp,h0,h1,h2=>by
  obtain⟨n,rfl⟩: ∃j,n=j+1:=⟨n-1,by omega⟩
  have hk':=F0 hd hk;have hpl:=hp.1;have hf1:=hf.1;unfold i_walking_walk;dsimp only;rw [decide_eq_true (show(p.length:Int)=(nest.length:Int) by omega)];have hc:m_ownClone p=some p:=by unfold m_ownClone;rw [if_pos (by omega)]
  refine b8 (aA hc (aA (bU (by simp;omega)) (Ev.some ⟨fun h=>?_,fun h=>?_⟩)))
  ·simp only [wk,pts,List.length_singleton] at h⊢;rw [decide_eq_true (by simp;omega),show st+1-1=st by omega]
  simp only [wk,pts,List.length_singleton] at h⊢;exact decide_eq_false (by simp;omega)
 |l::ls,n,k,p,st,out,hn,hd,hk,hp,h0,h1,h2=>by
  obtain⟨n,rfl⟩: ∃j,n=j+1:=⟨n-1,by omega⟩
  obtain⟨d1,d2,d3⟩:=w8 hd;obtain⟨s1,s2⟩:=hf.2 k l d1;have hpl:=hp.1;have hf1:=hf.1;have hk3:k≤3:=by omega
  simp only [List.length_cons] at hn;unfold i_walking_walk;dsimp only;rw [decide_eq_false (show¬(p.length:Int)=(nest.length:Int) by omega)];refine bZ (aA (x:=l) (by rw [hpl];exact aS d1) (aA (aIS (by omega) s1 s2 hp) ?_));let f:Int→Int:=fun v=>wk ls (p++[v]);have hfp: ∀v,1≤f v:=fun v=>aCu _ _;have hW:wk (l::ls) p=1+((jS (kL l p) (pQ l p)).map f).sum:=rfl;let g:Int→List (List Int):=fun v=>pts ls (p++[v]);have hP:pts (l::ls) p=(jS (kL l p) (pQ l p)).flatMap g:=rfl;refine Ev.loop (fun x:List Loop×Int×List (List Int)×Int=>x.1=nest∧kL l p≤x.2.2.2∧(x.2.2.2≤pQ l p∨x.2.2.2=kL l p)∧x.2.1=st+((jS (kL l p) x.2.2.2).map f).sum∧x.2.2.1=out++(jS (kL l p) x.2.2.2).flatMap g∧0≤x.2.1∧x.2.1≤1199∧x.2.2.1.length≤120)
   (fun x=>(1200-x.2.1).toNat) ?_ n _ ⟨rfl,T4 _,.inr rfl,by dsimp only;rw [iU (T4 _)];simp,by dsimp only;rw [iU (T4 _)];simp,h0,h1,h2⟩ (by dsimp only;omega)
  rintro again ⟨nst,x,o,v⟩ ⟨i0,i1,i2,i3,i4,i5,i6,i7⟩ hr;dsimp only at i0 i1 i2 i3 i4 i5 i6 i7⊢;subst i0;have hol:o.length=out.length+((jS (kL l p) v).flatMap g).length:=by rw [i4,pU]
  refine aH (fun hv=>?_) fun hv=>Ev.some ?_
  ·have hp':=R4 s1 s2 hp hk3 ⟨i1,hv⟩;have hrest:wk (l::ls) p≥1+((jS (kL l p) v).map f).sum+f v∧(pts (l::ls) p).length≥((jS (kL l p) v).flatMap g).length+(g v).length:=by
    rw [hW,hP,wS i1 hv,vAN,List.sum_append,vBT,List.sum_cons,vAY,pU,vBE,pU]
    have:=qN f (jS (v+1) (pQ l p)) fun y _=>hfp y;constructor
    ·omega
    omega
   have hvr: -1000000000≤v∧v≤1000000000:=by
    have h9:=hp'.2.2 v (by simp);have h8:=W4 hp'.2.1;simp only [jU] at h9;omega
   have e1:wr (x+1)=x+1:=by rw [aQ (by omega)]
   have e2:wr (x+1+1)=x+1+1:=by rw [aQ (by omega)]
   have e3:wr (v+1)=v+1:=by rw [aQ (by omega)]
   rw [e1,e2,e3];refine Ev.jn (fun z:List Loop×Int×List (List Int)×Bool=>(z.2.2.2=false→z.1=nst∧x+f v≤1199∧o.length+(g v).length≤120∧z.2.1=x+f v∧z.2.2.1=o++g v)∧(z.2.2.2=true→ ¬(st+wk (l::ls) p≤1200∧out.length+(pts (l::ls) p).length≤120)))
    (fun j hj=>aH (fun h=>hj _ ⟨fun h'=>(by cases h'),fun _=>?_⟩) fun h=>?_) fun z hz=>?_
   ·have:=hfp v;omega
   ·have hc:m_ownClone p=some p:=by unfold m_ownClone;rw [if_pos (by omega)]
    refine aA hc (aA (bU (by simp;omega)) (aM (aB2 hf ls n (k+1) (p++[v]) (x+1) o (by omega) d2 (by omega) hp' (by omega) (by omega) i7) fun r ⟨r1,r2⟩=>?_));by_cases hc:x+1+f v≤1200∧o.length+(g v).length≤120
    ·rw [r1 hc];exact hj _ ⟨fun _=>⟨rfl,by omega,hc.2,show x+1+f v-1=x+f v by omega,rfl⟩,fun h=>(by cases h)⟩
    have hr1:=r2 hc;obtain⟨rb,⟨rn,rs,ro⟩⟩:=r;dsimp only at hr1⊢;subst hr1;exact hj _ ⟨fun h=>(by cases h),fun _=>by omega⟩
   obtain⟨za,zb,zc,zd⟩:=z;obtain⟨z2,z3⟩:=hz;dsimp only at z2 z3⊢;cases zd with
   |true=>exact Ev.some ⟨fun h=>absurd h (z3 rfl),fun _=>rfl⟩
   |false=>
    obtain⟨rfl,y1,y2,y3,y4⟩:=z2 rfl;refine hr _ ⟨rfl,by dsimp only;omega,.inl (by dsimp only;omega),?_,?_,by dsimp only;have:=hfp v;omega,by dsimp only;omega,?_⟩ (by dsimp only;have:=hfp v;omega)
    ·dsimp only;rw [o6 i1,aDZ,y3,i3];omega
    ·dsimp only;rw [y4,i4,o6 i1,vAY];simp
    dsimp only;rw [y4,pU];exact y2
  have:jS (kL l p) v=jS (kL l p) (pQ l p):=by
   rcases i2 with h2|h2
   ·rw [show v=pQ l p by omega]
   subst h2;rw [iU (T4 _),iU (by omega)]
  rw [this] at i3 i4 hol;rw [←hP] at i4 hol;refine⟨fun h=>?_,fun h=>?_⟩
  ·rw [i4,i3,hW,show st+(1+((jS (kL l p) (pQ l p)).map f).sum)-1=st+((jS (kL l p) (pQ l p)).map f).sum by omega]
  exact absurd ⟨by omega,by omega⟩ h
def NP(nest:List Loop):Option (List (List Int)):=if kR nest=true∧wk nest []≤1200∧(pts nest []).length≤120 then some (pts nest []) else none
def aGJ:Option (List (List Int))→List (List Int)×Bool
 |none=>([],false)
 |some l=>(l,true)
theorem pt0:q5 0 []:=⟨rfl,by omega,fun x h=>by cases h⟩
theorem P8{n:Nat}(hn:6000≤n){nest:List Loop}(h:SmN nest):nP n nest=some (aGJ (NP nest)):=by
 refine Ev.eq ?_;unfold nP;refine aA (Z5 (by omega) h) ?_;unfold NP;cases hv:kR nest with
 |false=>exact Ev.some (by simp [aGJ])
 |true=>
  have hf:=aC0 hv;refine aM (aB2 hf nest n 0 [] 0 [] (by have:=hf.1;omega) rfl (by omega) pt0 (by omega) (by omega) (by simp)) fun r ⟨r1,r2⟩=>?_;by_cases hc:(0:Int)+wk nest []≤1200∧([]:List (List Int)).length+(pts nest []).length≤120
  ·rw [r1 hc,if_pos ⟨rfl,by omega,by simpa using hc.2⟩];exact Ev.some (by simp [aGJ])
  rw [r2 hc,if_neg fun h=>hc ⟨by omega,by simpa using h.2.2⟩];exact Ev.some rfl
theorem P5{n:Nat}(hn:6000≤n){nest:List Loop}(h:SmN nest):nH n nest=some (aGJ (NP nest)):=by
 refine Ev.eq ?_;unfold nH;refine Ev.jn (fun z=>z= !(kR nest&&decide (wk nest []≤1200))) (fun j hj=>aA (V2 (by omega) h) ?_) fun z hz=>?_
 ·cases hv:kR nest with
  |false=>exact hj _ (by rw [hv];rfl)
  |true=>
   have hf:=aC0 hv;refine aM (aBx hf nest n 0 [] 1200 (by have:=hf.1;omega) rfl (by omega) pt0 (by omega) (by omega)) fun r ⟨r1,r2,r3,r4⟩=>hj _ ?_;rw [hv,vAV];by_cases hw:wk nest []≤1200
   ·rw [decide_eq_true hw,decide_eq_false (by rw [r1 hw];omega)];rfl
   rw [decide_eq_false hw,decide_eq_true (r2 (by omega))];rfl
 subst hz;unfold NP;cases hv:kR nest with
 |false=>exact Ev.some (by simp [aGJ])
 |true=>
  have hf:=aC0 hv;by_cases hw:wk nest []≤1200
  ·rw [decide_eq_true hw];refine aM (uV hf nest n 0 [] [] (by have:=hf.1;omega) rfl (by omega) pt0 hw (by simp)) fun r ⟨r1,r2⟩=>?_;by_cases hl:(pts nest []).length≤120
   ·rw [r1 (by simpa using hl),if_pos ⟨rfl,hw,hl⟩];refine aH (fun h=>absurd h (by simp;omega)) fun _=>Ev.some (by simp [aGJ])
   have:=r2 (by simp;omega);rw [if_neg fun h=>hl h.2.2];exact aH (fun _=>Ev.some rfl) fun h=>absurd h (by omega)
  rw [decide_eq_false hw,if_neg fun h=>hw h.2.1];exact Ev.some rfl
def o8(s:List UInt8):Bool:=match s with
 | [b]=>decide (65≤b.toNat∧b.toNat≤68)
 |_=>false
theorem yI{s:List UInt8}(h:s.length≠1):o8 s=false:=by
 match s,h with
 | [],_=>rfl
 | [b],h=>exact absurd rfl h
 |_::_::_,_=>rfl
theorem aOC{s:List UInt8}(h:s.length=1): ∃b,s=[b]:=by
 match s,h with
 | [b],_=>exact⟨b,rfl⟩
theorem aJH(b:UInt8)(k:Nat)(hk:k<256):(b=UInt8.ofNat k)↔b.toNat=k:=by
 constructor
 ·intro h;rw [h];simp;omega
 intro h;rw [←h];simp
theorem aBd(b:UInt8):Lib.contains [65,66,67,68] [b]=decide (65≤b.toNat∧b.toNat≤68):=by
 have e1:(b=65)↔b.toNat=65:=aJH b 65 (by omega);have e2:(b=66)↔b.toNat=66:=aJH b 66 (by omega);have e3:(b=67)↔b.toNat=67:=aJH b 67 (by omega);have e4:(b=68)↔b.toNat=68:=aJH b 68 (by omega);by_cases h1:b=65
 ·subst h1;decide
 by_cases h2:b=66
 ·subst h2;decide
 by_cases h3:b=67
 ·subst h3;decide
 by_cases h4:b=68
 ·subst h4;decide
 rw [e1] at h1;rw [e2] at h2;rw [e3] at h3;rw [e4] at h4;rw [decide_eq_false (by omega)];rw [←e1] at h1;rw [←e2] at h2;rw [←e3] at h3;rw [←e4] at h4;simp [Lib.contains,Lib.index,h1,h2,h3,h4]
theorem E5(n:Nat)(s:List UInt8):rW n s=some (o8 s):=by
 unfold rW;by_cases h:s.length=1
 ·obtain⟨b,rfl⟩:=aOC h;simp only [jn,m_contains];rw [if_pos (by simp),aBd];rfl
 rw [decide_eq_false (show¬(s.length:Int)=1 by omega),yI h];rfl
theorem Y2(b:UInt8):Op.bytesLess [b] [65]=decide (b.toNat<65):=by simp [Op.bytesLess,UInt8.lt_iff_toNat_lt]
theorem Y1(b:UInt8):(Op.bytesLess [b] [68]||[b]==[68])=decide (b.toNat≤68):=by
 have e:(b=68)↔b.toNat=68:=aJH b 68 (by omega);by_cases h:b=68
 ·subst h;decide
 have h':b.toNat≠68:=fun e'=>h (e.2 e')
 have:([b]==[(68:UInt8)])=false:=by simp [h]
 rw [this,Bool.or_false];simp only [Op.bytesLess,Bool.and_false,Bool.or_false,UInt8.lt_iff_toNat_lt];apply decide_eq_decide.2;show b.toNat<68↔_;omega
def gN(a:Access)(d:Int):Bool:=a.subs.all (fun x=>b7 x d)&&(o8 a.array&&decide (1≤a.subs.length∧a.subs.length≤2))
theorem aIY{n:Nat}(hn:5000≤n){a:Affine}(ha:SmA a)(d:Int):kW n a d=some (!b7 a d):=Z3 hn ha d
theorem xP{n:Nat}(hn:5000≤n){a:Access}(ha:Q7 a.subs)(d:Int):pD n a d=some (gN a d):=by
 obtain⟨h0,h1⟩:=ha;unfold pD;rw [E5,tG];have hc:=m8 (n:=n) (f:=fun q0=>kW n q0 d) (p:=fun a=> !b7 a d) (l:=a.subs) (fun x hx=>aIY hn (h1 x hx) d) (by omega) (by omega);simp only [jn,Option.bind];rw [hc];unfold gN;have e:(a.subs.any fun a=> !b7 a d)= !(a.subs.all fun a=>b7 a d):=by
  rw [vBd];simp
 rw [e];cases o8 a.array<;>cases decide (1≤a.subs.length∧a.subs.length≤2)<;>simp
theorem xM{n:Nat}(hn:5000≤n){a:Access}(ha:Q7 a.subs)(d:Int):o0 n a d=some (gN a d):=by
 obtain⟨h0,h1⟩:=ha;refine Ev.eq ?_;unfold o0;refine nY (l:=a.subs) (p:=fun _ a=>b7 a d) (by omega) (by omega) (fun again i x hx hgo hno=>?_) (fun again hall=>?_) (fun⟨i,x,hx,hp⟩=>?_)
 ·have hi:=(cH.1 hx).1;have hm:=h1 x (cN hx);rw [decide_eq_true (show(i:Int)<(a.subs.length:Int) by omega)];refine b8 (Ev.jn (fun z=>z= !b7 x d) (fun j hj=>aA (aS hx) (aA (lP hn x hm) ?_)) fun z hz=>?_)
  ·cases ha:bO x with
   |false=>exact hj _ (by unfold b7;rw [ha];rfl)
   |true=>exact aA (sW hn hm) (hj _ (by unfold b7;rw [ha,ltd];simp))
  subst hz;cases hb:b7 x d with
  |true=>show Ev (again _) _;rw [aQ (by omega)];exact hgo hb
  |false=>exact Ev.some (hno hb)
 ·rw [decide_eq_false (show¬(a.subs.length:Int)<(a.subs.length:Int) by omega)];have e:a.subs.all (fun a=>b7 a d)=true:=vAF.2 fun c hc=>by obtain⟨i,hi⟩:=vAM hc;exact hall i c hi
  unfold gN;rw [e,vAV];refine bZ (Ev.jn (fun z=>z=(o8 a.array&&decide (1≤a.subs.length∧a.subs.length≤2))) (fun j hj=>?_) fun z hz=>Ev.some hz);by_cases h:a.array.length=1
  ·rw [decide_eq_true (show(a.array.length:Int)=1 by omega)];obtain⟨b,hb⟩:=aOC h;rw [hb] at hj⊢;rw [Y2,Y1];show Ev (bif _ then _ else _) _;simp only [o8] at hj⊢;by_cases g1:b.toNat<65
   ·rw [decide_eq_true g1];exact hj _ (by rw [decide_eq_false (show¬(65≤b.toNat∧b.toNat≤68) by omega)];rfl)
   rw [decide_eq_false g1];by_cases g2:b.toNat≤68
   ·rw [decide_eq_true g2];rw [decide_eq_true (show 65≤b.toNat∧b.toNat≤68 by omega)] at hj⊢;refine aH (fun h=>hj _ ?_) fun h=>hj _ ?_
    ·by_cases h2:a.subs.length≤2
     ·rw [decide_eq_true (show(a.subs.length:Int)≤2 by omega),decide_eq_true (by omega)];rfl
     rw [decide_eq_false (show¬(a.subs.length:Int)≤2 by omega),decide_eq_false (by omega)];rfl
    rw [decide_eq_false (by omega)];rfl
   rw [decide_eq_false g2];exact hj _ (by rw [decide_eq_false (show¬(65≤b.toNat∧b.toNat≤68) by omega)];rfl)
  rw [decide_eq_false (show¬(a.array.length:Int)=1 by omega)];exact hj _ (by rw [yI h];rfl)
 unfold gN;rw [vAJ.2 ⟨x,cN hx,by rw [hp];simp⟩];rfl
def jI(a:Affine):Bool:=decide (a.coefs.length=0)&&decide (a.const=0)
def nA(a:Access):Bool:=decide (a.array=[])&&decide (a.subs.length=0)
theorem aM0(k:Nat):decide ((k:Int)=0)=decide (k=0):=decide_eq_decide.2 (by omega)
theorem aA9(n:Nat)(a:Affine):pB n a=some (jI a):=by unfold pB jI;rw [aM0];cases decide (a.coefs.length=0)<;>rfl
theorem aD5(n:Nat)(a:Affine):rE n a=some (jI a):=by unfold rE jI;rw [aM0];cases decide (a.coefs.length=0)<;>rfl
theorem aBa(n:Nat)(a:Access):kE n a=some (nA a):=by unfold kE nA;rw [aM0];cases decide (a.array=[])<;>rfl
theorem aCF(n:Nat)(a:Access):oG n a=some (nA a):=by unfold oG nA;rw [aM0];cases decide (a.array=[])<;>rfl
def fV(e:Expr)(d:Int):Bool:=
 if e.kind=2 then decide (e.num=0)&&(nA e.read&&b7 e.index d)
 else if e.kind=3 then decide (e.num=0)&&(jI e.index&&gN e.read d)
 else if e.kind=1 then decide (0≤e.num∧e.num≤99)&&(jI e.index&&nA e.read)
 else decide (e.num=0)&&(jI e.index&&nA e.read)
def iG(k:Int):Int:=if k=1∨k=2∨k=3 then 0 else if k=4∨k=5∨k=6 then 2 else-1
theorem aD6(n:Nat)(k:Int):B1 n k=some (iG k):=by
 unfold B1 iG;by_cases h1:k=1
 ·subst h1;rfl
 by_cases h2:k=2
 ·subst h2;rfl
 by_cases h3:k=3
 ·subst h3;rfl
 by_cases h4:k=4
 ·subst h4;rfl
 by_cases h5:k=5
 ·subst h5;rfl
 by_cases h6:k=6
 ·subst h6;rfl
 simp [jn,h1,h2,h3,h4,h5,h6]
theorem aFS{n:Nat}(hn:5000≤n){e:Expr}(h1:SmA e.index)(h2:Q7 e.read.subs)(d:Int):R2 n e d=some (fV e d):=by
 unfold R2 fV;rw [aCF,aD5,lP hn _ h1,sW hn h1,xM hn h2];by_cases k2:e.kind=2
 ·rw [if_pos k2,decide_eq_true k2];simp only [jn,Option.bind,cond_true,b7];cases decide (e.num=0)<;>cases nA e.read<;>cases bO e.index<;>simp
 rw [if_neg k2,decide_eq_false k2];by_cases k3:e.kind=3
 ·rw [if_pos k3,decide_eq_true k3];simp only [jn,Option.bind,cond_true,cond_false];cases decide (e.num=0)<;>cases jI e.index<;>simp
 rw [if_neg k3,decide_eq_false k3];by_cases k1:e.kind=1
 ·rw [if_pos k1,decide_eq_true k1];simp only [jn,Option.bind,cond_true,cond_false];by_cases g1:0≤e.num<;>by_cases g2:e.num≤99<;>cases jI e.index<;>simp [g1,g2]
 rw [if_neg k1,decide_eq_false k1];simp only [jn,Option.bind,cond_false];cases decide (e.num=0)<;>cases jI e.index<;>simp
end Go.Lift
