/- Plain facts on sums of products, on ranges, on the points of a nest. -/
import Derived.Test.YtcihigfifglboaaGreatULawDraw
set_option maxRecDepth 110000000
set_option linter.unusedVariables false
namespace Go.Lift
open Go
def V0:List Int→List Int→Int
 |c::cs,x::xs=>c*x+V0 cs xs
 |_,_=>0
def zC(m:Int)(x:Int):Prop:= -m≤x∧x≤m
theorem aC9{a b c x:Int}(ha:0≤a)(hb:0≤b)(h1:zC a c)(h2:zC b x):zC (a*b) (c*x):=by
 obtain⟨p1,p2⟩:=h1;obtain⟨q1,q2⟩:=h2;constructor
 ·have h:=vBh (show 0≤a+c by omega) (show 0≤b+x by omega);have k:=vBh (show 0≤a-c by omega) (show 0≤b-x by omega);have e1:(a+c)*(b+x)=a*b+a*x+c*b+c*x:=by rw [Int.add_mul,Int.mul_add,Int.mul_add];omega
  have e2:(a-c)*(b-x)=a*b-a*x-c*b+c*x:=by rw [Int.sub_mul,Int.mul_sub,Int.mul_sub];omega
  rw [e1] at h;rw [e2] at k;omega
 have h:=vBh (show 0≤a+c by omega) (show 0≤b-x by omega);have k:=vBh (show 0≤a-c by omega) (show 0≤b+x by omega);have e1:(a+c)*(b-x)=a*b-a*x+c*b-c*x:=by rw [Int.add_mul,Int.mul_sub,Int.mul_sub];omega
 have e2:(a-c)*(b+x)=a*b+a*x-c*b-c*x:=by rw [Int.sub_mul,Int.mul_add,Int.mul_add];omega
 rw [e1] at h;rw [e2] at k;omega
theorem K4(cs:List Int):V0 cs []=0:=by cases cs<;>rfl
theorem R4: ∀{cs xs:List Int} {c x:Int},cs[xs.length]? =some c→V0 cs (xs++[x])=V0 cs xs+c*x
 | [],xs,c,x,h=>by simp at h
 |d::cs,[],c,x,h=>by simp at h;subst h;simp [V0,K4]
 |d::cs,y::xs,c,x,h=>by
  have h:cs[xs.length]? =some c:=by simpa using h
  simp only [List.cons_append,V0];rw [R4 h];omega
theorem R3{cs xs:List Int}{i:Nat}{c x:Int}(hc:cs[i]? =some c)(hx:xs[i]? =some x):V0 cs (xs.take (i+1))=V0 cs (xs.take i)+c*x:=by have hi:=(bO.1 hx).1;rw [vAI,hx];exact R4 (by simpa [Nat.min_eq_left (Nat.le_of_lt hi)] using hc)
theorem aD0{M:Int}(hM:0≤M): ∀{cs xs:List Int},(∀c∈cs,zC 9 c)→(∀x∈xs,zC M x)→zC (9*M*xs.length) (V0 cs xs)
 | [],xs,_,_=>by
  have:0≤9*M*(xs.length:Int):=vBh (by omega) (by omega);simp only [V0,zC];omega
 |d::cs,[],_,_=>by simp [V0,zC]
 |d::cs,y::xs,hc,hx=>by
  have h1:=aD0 hM (cs:=cs) (xs:=xs) (fun c h=>hc c (by simp [h])) fun x h=>hx x (by simp [h]);have h2:=aC9 (by omega) hM (hc d (by simp)) (hx y (by simp));have e:9*M*((y::xs).length:Int)=9*M*(xs.length:Int)+9*M:=by simp [Int.mul_add]
  rw [e];simp only [V0,zC] at*;omega
def gS(lo hi:Int):List Int:=(List.range (hi-lo).toNat).map (fun(i:Nat)=>lo+(i:Int))
theorem aE9{lo hi v:Int}:v∈gS lo hi↔lo≤v∧v<hi:=by
 simp only [gS,List.mem_map,List.mem_range];constructor
 ·rintro⟨i,hi,rfl⟩;omega
 intro h;exact⟨(v-lo).toNat,by omega,by omega⟩
theorem eU{lo hi:Int}(h:hi≤lo):gS lo hi=[]:=by unfold gS;rw [show(hi-lo).toNat=0 by omega];rfl
theorem jX{lo hi:Int}(h:lo≤hi):gS lo (hi+1)=gS lo hi++[hi]:=by unfold gS;rw [show(hi+1-lo).toNat=(hi-lo).toNat+1 by omega,List.range_succ,vBb];simp;omega
theorem o5{lo v hi:Int}(h1:lo≤v)(h2:v<hi):gS lo hi=gS lo v++v::gS (v+1) hi:=by
 obtain⟨k,hk⟩: ∃k:Nat,hi=v+1+k:=⟨(hi-v-1).toNat,by omega⟩
 subst hk;clear h2;induction k with
 |zero=>
  rw [show v+1+((0:Nat):Int)=v+1 by omega,jX h1,eU (A8 _)]
 |succ k ih=>
  rw [show v+1+((k+1:Nat):Int)=v+1+(k:Int)+1 by omega,jX (by omega),ih,jX (by omega)];simp
theorem wH{α:Type}{f:α→Option Bool}{p:α→Bool}{l:List α}(hf: ∀x∈l,f x=some (p x)){n:Nat}(hl:l.length<n)(hl2:l.length≤500000000):
  ∃r:Int,aM (fun again2 (x1:Int)=>bif decide (x1<(l.length:Int)) then(Option.bind (ix l x1) fun x3=>Option.bind (f x3) fun x4=>bif x4 then(some x1) else(again2 (wr (x1+1)))) else(some (-1))) n 0=some r∧decide (0≤r)=l.any p:=by
 suffices h:Ev (aM (fun again2 (x1:Int)=>bif decide (x1<(l.length:Int)) then(Option.bind (ix l x1) fun x3=>Option.bind (f x3) fun x4=>bif x4 then(some x1) else(again2 (wr (x1+1)))) else(some (-1))) n 0) (fun r=>decide (0≤r)=l.any p) by exact h
 refine Ev.loop (fun x:Int=>0≤x∧x≤l.length∧(l.take x.toNat).any p=false) (fun x:Int=>l.length-x.toNat) ?_ n 0 ⟨by omega,by omega,by simp⟩ (by simp;omega);rintro again x ⟨h0,h1,h2⟩ hr;refine aL (fun hlt=>?_) fun hge=>?_
 ·obtain⟨y,hy,hy2⟩:=aHF h0 hlt;have hm:=dB hy2;refine aB hy (aB (hf y hm) (Ev.cond (fun ht=>Ev.some ?_) fun hfl=>?_))
  ·rw [show l.any p=true from vBl.2 ⟨y,hm,ht⟩];simp [h0]
  rw [aN (by omega)];refine hr _ ⟨by omega,by omega,?_⟩ (by omega);rw [show(x+1).toNat=x.toNat+1 by omega,vAI,hy2];simp [h2,hfl]
 refine Ev.some ?_;have hx:x.toNat=l.length:=by omega
 rw [hx,zG] at h2;rw [h2];simp
theorem m5{f:Int→Option Bool}{p:Int→Bool}{l:List Int}(hf: ∀x∈l,f x=some (p x)){n:Nat}(hl:l.length<n)(hl2:l.length≤500000000):bG n l f=some (l.any p):=by obtain⟨r,h1,h2⟩:=wH hf hl hl2;unfold bG iQ;rw [h1,←h2];rfl
theorem nG{f:Affine→Option Bool}{p:Affine→Bool}{l:List Affine}(hf: ∀x∈l,f x=some (p x)){n:Nat}(hl:l.length<n)(hl2:l.length≤500000000):b8 n l f=some (l.any p):=by obtain⟨r,h1,h2⟩:=wH hf hl hl2;unfold b8 fT;rw [h1,←h2];rfl
theorem zQ{f:Stmt→Option Bool}{p:Stmt→Bool}{l:List Stmt}(hf: ∀x∈l,f x=some (p x)){n:Nat}(hl:l.length<n)(hl2:l.length≤500000000):dP n l f=some (l.any p):=by obtain⟨r,h1,h2⟩:=wH hf hl hl2;unfold dP gW;rw [h1,←h2];rfl
theorem vW{f:Access→Option Bool}{p:Access→Bool}{l:List Access}(hf: ∀x∈l,f x=some (p x)){n:Nat}(hl:l.length<n)(hl2:l.length≤500000000):cZ n l f=some (l.any p):=by obtain⟨r,h1,h2⟩:=wH hf hl hl2;unfold cZ fU;rw [h1,←h2];rfl
theorem jI{α:Type}{l:List α}{p:Nat→α→Bool}{Q:Bool→Prop}{body:(Int→Option Bool)→Int→Option Bool}{n:Nat}(hl:l.length<n)(hl2:l.length≤500000000)
  (hstep: ∀again (i:Nat) x,l[i]? =some x→(p i x=true→Ev (again ((i:Int)+1)) Q)→(p i x=false→Q false)→Ev (body again (i:Int)) Q)
  (hend: ∀again,(∀(i:Nat) x,l[i]? =some x→p i x=true)→Ev (body again (l.length:Int)) Q) (hbad:(∃(i:Nat) (x:α),l[i]? =some x∧p i x=false)→Q false):Ev (aM body n 0) Q:=by
 refine Ev.loop (fun x:Int=> ∃i:Nat,x=i∧i≤l.length∧ ∀(j:Nat) y,j<i→l[j]? =some y→p j y=true) (fun x:Int=>l.length-x.toNat) ?_ n 0 ⟨0,rfl,by omega,fun j y h=>by omega⟩ (by simp;omega);rintro again x ⟨i,rfl,hi,ha⟩ hr;by_cases hlt:i<l.length
 ·have hx:=dC hlt;refine hstep again i _ hx (fun hp=>hr _ ⟨i+1,by omega,by omega,fun j y hj hy=>?_⟩ (by omega)) fun hp=>hbad ⟨i,_,hx,hp⟩;by_cases hji:j=i
  ·subst hji;rw [hx] at hy;cases hy;exact hp
  exact ha j y (by omega) hy
 have hil:i=l.length:=by omega
 subst hil;exact hend again fun j y hy=>ha j y (bO.1 hy).1 hy
def eG(a:Affine):Bool:=decide (a.coefs.length=4)&&(decide (-99≤a.const∧a.const≤99)&&a.coefs.all fun c=>decide (-9≤c∧c≤9))
theorem sV{a:Affine}(h:eG a=true):a.coefs.length=4∧zC 99 a.const∧ ∀c∈a.coefs,zC 9 c:=by simp only [eG,Bool.and_eq_true,decide_eq_true_eq,List.all_eq_true] at h;exact⟨h.1,h.2.1,h.2.2⟩
theorem d9(n:Nat)(x a b:Int):bZ n x a b=some (decide (a≤x∧x≤b)):=by unfold bZ;by_cases h1:a≤x<;>by_cases h2:x≤b<;>simp [jn,h1,h2]
theorem l7{n:Nat}(hn:5500000≤n)(a:Affine)(ha:a.coefs.length≤1100000):eC n a=some (eG a):=by
 have hf: ∀x∈a.coefs,d4 n x=some (!decide (-9≤x∧x≤9)):=fun x _=>by unfold d4;rw [d9];rfl
 have hc:=m5 (n:=n) hf (by omega) (by omega);unfold eC tY;rw [d9];simp only [jn,Option.bind];rw [hc];unfold eG;have e:(a.coefs.any fun x=> !decide (-9≤x∧x≤9))= !(a.coefs.all fun c=>decide (-9≤c∧c≤9)):=by
  rw [vAV];simp
 rw [e];by_cases h1:a.coefs.length=4
 ·rw [decide_eq_true (show(a.coefs.length:Int)=4 by omega),decide_eq_true h1];generalize decide (-99≤a.const∧a.const≤99)=b;cases b<;>simp
 rw [decide_eq_false (show¬(a.coefs.length:Int)=4 by omega),decide_eq_false h1];rfl
theorem nX(n:Nat)(x m:Int)(hm:0≤m∧m≤1000000000):gQ n x m=some (decide (-m≤x∧x≤m)):=by
 unfold gQ;rw [aN (by omega)];by_cases h1: -m≤x<;>by_cases h2:x≤m
 ·simp [jn,h1,h2]
 ·simp [jn,h1,h2]
 ·simp [jn,h1,h2]
 simp [jn,h1,h2]
theorem gR{n:Nat}(hn:5500000≤n)(a:Affine)(ha:a.coefs.length≤1100000):eA n a=some (eG a):=by
 refine Ev.eq ?_;unfold eA;refine jI (l:=a.coefs) (p:=fun _ c=>decide (-9≤c∧c≤9)) (by omega) (by omega) (fun again i x hx hgo hno=>?_) (fun again hall=>?_) (fun⟨i,x,hx,hp⟩=>?_)
 ·rw [decide_eq_true (show(i:Int)<(a.coefs.length:Int) by have:=(bO.1 hx).1;omega)];refine aB (aT hx) (aB (nX n x 9 (by omega)) ?_);have hi:=(bO.1 hx).1;cases hp:decide (-9≤x∧x≤9) with
  |true=>show Ev (again _) _;rw [aN (by omega)];exact hgo hp
  |false=>exact Ev.some (hno hp)
 ·rw [decide_eq_false (show¬(a.coefs.length:Int)<(a.coefs.length:Int) by omega)];have e:a.coefs.all (fun c=>decide (-9≤c∧c≤9))=true:=G9.2 fun c hc=>by obtain⟨i,hi⟩:=vAA hc;exact hall i c hi
  refine Ev.cond (fun h=>(by cases h)) fun _=>?_;unfold eG;rw [e];refine Ev.jn (fun z:Bool=>z=(decide (a.coefs.length=4)&&(decide (-99≤a.const∧a.const≤99)&&true))) (fun j hj=>?_) fun z hz=>Ev.some hz;refine aL (fun h=>aB (nX n a.const 99 (by omega)) (hj _ ?_)) fun h=>hj _ ?_
  ·rw [decide_eq_true (show a.coefs.length=4 by omega)];simp
  rw [decide_eq_false (show¬a.coefs.length=4 by omega)];rfl
 unfold eG;have e:a.coefs.all (fun c=>decide (-9≤c∧c≤9))=false:=U8.2 ⟨x,dB hx,by rw [hp];simp⟩;rw [e];simp
def d5(a:Affine)(p:List Int):Int:=a.const+V0 a.coefs p
def ptB(M:Int)(p:List Int):Prop:= ∀x∈p,zC M x
theorem pD{a:Affine}(ha:eG a=true){p:List Int}(hp:p.length≤4){M:Int}(hM:0≤M∧M≤1000000000)(hB:ptB M p)(i:Nat)(hi:i≤p.length):zC 1000000000000 (a.const+V0 a.coefs (p.take i)):=by
 obtain⟨h1,h2,h3⟩:=sV ha;have h4:=aD0 (M:=M) hM.1 (cs:=a.coefs) (xs:=p.take i) h3 fun x hx=>hB x (U7 hx);have h5:(p.take i).length≤4:=by simp;omega
 have h6:9*M*((p.take i).length:Int)≤9*M*4:=Int.mul_le_mul_of_nonneg_left (by omega) (by omega);simp only [zC] at*;omega
theorem aBI{n:Nat}(hn:5500000≤n){a:Affine}(ha:eG a=true){p:List Int}(hp:p.length≤4){M:Int}(hM:0≤M∧M≤1000000000)(hB:ptB M p):bW n a p=some (d5 a p):=by
 obtain⟨h1,h2,h3⟩:=sV ha;refine Ev.eq ?_;unfold bW;refine Ev.loop (fun x:Int×Int=> ∃i:Nat,x.2=i∧i≤p.length∧x.1=a.const+V0 a.coefs (p.take i)) (fun x=>p.length-x.2.toNat) ?_ n _ ⟨0,rfl,by omega,by simp [K4]⟩ (by simp;omega);rintro again ⟨x,k⟩ ⟨i,hk,hi,hx⟩ hr;dsimp only at hk hx⊢;subst hk;refine aL (fun hlt=>?_) fun hge=>Ev.some ?_
 ·have hlt:i<p.length:=by omega
  have hp2:=dC hlt;have hc2:=dC (show i<a.coefs.length by omega);have hd:=R3 hc2 hp2;have e1:=pD ha hp hM hB i hi;have e2:=pD ha hp hM hB (i+1) (by omega);rw [hd] at e2;have e3:=aC9 (by omega) hM.1 (h3 _ (dB hc2)) (hB _ (dB hp2));refine aB (aT hp2) (aB (aT hc2) ?_);simp only [zC] at e1 e2 e3;rw [aN (n:=a.coefs[i]*p[i]) (by omega),aN (by omega),aN (by omega)];refine hr _ ⟨i+1,by dsimp only;omega,by omega,?_⟩ (by dsimp only;omega);dsimp only;rw [hd,hx];omega
 have:i=p.length:=by omega
 rw [hx,this,zG];rfl
theorem aBw{n:Nat}(hn:5500000≤n){a:Affine}(ha:eG a=true){p:List Int}(hp:p.length≤4){M:Int}(hM:0≤M∧M≤1000000000)(hB:ptB M p):fG n a p=some (d5 a p):=by
 obtain⟨h1,h2,h3⟩:=sV ha;refine Ev.eq ?_;unfold fG;refine Ev.loop (fun x:Int×Int=> ∃i:Nat,x.2=i∧i≤p.length∧x.1=a.const+V0 a.coefs (p.take i)) (fun x=>p.length-x.2.toNat) ?_ n _ ⟨0,rfl,by omega,by simp [K4]⟩ (by simp;omega);rintro again ⟨x,k⟩ ⟨i,hk,hi,hx⟩ hr;dsimp only at hk hx⊢;subst hk;refine Ev.jn (fun z=>z=decide (i<p.length)) (fun j hj=>aL (fun h=>hj _ ?_) fun h=>hj _ ?_) fun z hz=>?_
 ·rw [decide_eq_true (show i<p.length by omega),decide_eq_true (show(i:Int)<(a.coefs.length:Int) by omega)]
 ·rw [decide_eq_false (show¬i<p.length by omega)]
 subst hz;refine aL (fun hlt=>?_) fun hge=>Ev.some ?_
 ·have hp2:=dC hlt;have hc2:=dC (show i<a.coefs.length by omega);have hd:=R3 hc2 hp2;have e1:=pD ha hp hM hB i hi;have e2:=pD ha hp hM hB (i+1) (by omega);rw [hd] at e2;have e3:=aC9 (by omega) hM.1 (h3 _ (dB hc2)) (hB _ (dB hp2));refine aB (aT hc2) (aB (aT hp2) ?_);simp only [zC] at e1 e2 e3;rw [aN (n:=a.coefs[i]*p[i]) (by omega),aN (by omega),aN (by omega)];refine hr _ ⟨i+1,by dsimp only;omega,by omega,?_⟩ (by dsimp only;omega);dsimp only;rw [hd,hx];omega
 have:i=p.length:=by omega
 rw [hx,this,zG];rfl
theorem cY{R:Type}{Q:R→Prop}{A B:Option R}(h:Ev A Q):Ev (bif true then A else B) Q:=h
theorem bF{R:Type}{Q:R→Prop}{A B:Option R}(h:Ev B Q):Ev (bif false then A else B) Q:=h
def eO:List Int→Nat
 | []=>0
 |c::cs=>if eO cs=0 then(if c=0 then 0 else 1) else eO cs+1
theorem uZ: ∀(l:List Int) (c:Int),eO (l++[c])=if c=0 then eO l else l.length+1
 | [],c=>by simp [eO]
 |d::l,c=>by
  have ih:=uZ l c;simp only [List.cons_append,eO,ih];by_cases hc:c=0
  ·simp [hc]
  simp [hc]
theorem uY{l:List Int}{i:Nat}{c:Int}(h:l[i]? =some c):eO (l.take (i+1))=if c=0 then eO (l.take i) else i+1:=by have hi:=(bO.1 h).1;rw [vAI,h];show eO (l.take i++[c])=_;rw [uZ,A7,Nat.min_eq_left (Nat.le_of_lt hi)]
def SmA(a:Affine):Prop:=a.coefs.length≤1100000
def vY(l:List Affine):Prop:=l.length≤1100000∧ ∀a∈l,SmA a
theorem pZ{n:Nat}(hn:5500000≤n){a:Affine}(ha:SmA a):jM n a=some (eO a.coefs:Int):=by
 have ha:a.coefs.length≤1100000:=ha;refine Ev.eq ?_;unfold jM;refine Ev.loop (fun x:Int×Int=> ∃i:Nat,x.2=i∧i≤a.coefs.length∧x.1=(eO (a.coefs.take i):Int)) (fun x=>a.coefs.length-x.2.toNat) ?_ n _ ⟨0,rfl,by omega,by simp [eO]⟩ (by simp;omega);rintro again ⟨x,k⟩ ⟨i,hk,hi,hx⟩ hr;dsimp only at hk hx⊢;subst hk;refine aL (fun hlt=>?_) fun hge=>Ev.some ?_
 ·have hlt:i<a.coefs.length:=by omega
  have hc:=dC hlt;have hd:=uY hc;refine Ev.jn (fun z:Int=>z=(eO (a.coefs.take (i+1)):Int)) (fun j hj=>aB (aT hc) (b6 (fun h0=>hj _ ?_) fun h0=>hj _ ?_)) fun z hz=>?_
  ·rw [hd,if_neg h0,aN (by omega)];omega
  ·rw [hd,if_pos h0,hx]
  rw [aN (by omega)];exact hr _ ⟨i+1,by dsimp only;omega,by omega,hz⟩ (by dsimp only;omega)
 have:i=a.coefs.length:=by omega
 rw [hx,this,zG]
theorem xV{n:Nat}(hn:5500000≤n){a:Affine}(ha:SmA a):dT n a=some (eO a.coefs:Int):=by
 have ha:a.coefs.length≤1100000:=ha;refine Ev.eq ?_;unfold dT;refine Ev.loop (fun x:Int=> ∃i:Nat,x=i∧i≤a.coefs.length∧eO a.coefs=eO (a.coefs.take i)) (fun x=>x.toNat) ?_ n _ ⟨a.coefs.length,rfl,by omega,by rw [zG]⟩ (by simp;omega);rintro again x ⟨i,rfl,hi,hx⟩ hr;cases i with
 |zero=>
  refine Ev.jn (fun z=>z=false) (fun j hj=>aL (fun h=>absurd h (by decide)) fun h=>hj _ rfl) fun z hz=>?_;subst hz;exact Ev.some (by rw [hx];rfl)
 |succ i=>
  have hlt:i<a.coefs.length:=by omega
  have hc:=dC hlt;have hd:=uY hc;have e:wr (((i+1:Nat):Int)-1)=(i:Int):=by rw [aN (by omega)];omega
  rw [e];refine Ev.jn (fun z=>z=decide (a.coefs[i]=0)) (fun j hj=>aL (fun h=>aB (aT hc) (hj _ rfl)) fun h=>absurd (show(0:Int)<((i+1:Nat):Int) by omega) h) fun z hz=>?_;subst hz;refine aL (fun h0=>?_) fun h0=>Ev.some ?_
  ·exact hr _ ⟨i,rfl,by omega,by rw [hx,hd,if_pos h0]⟩ (by omega)
  rw [hx,hd,if_neg h0]
def bI(a:Affine)(d:Int):Bool:=eG a&&decide ((eO a.coefs:Int)≤d)
def bN(l:List Affine)(d:Int):Bool:=l.all (fun a=>bI a d)&&decide (1≤l.length∧l.length≤2)
theorem ltd(a b:Int):decide (a<b)= !decide (b≤a):=by
 by_cases h:a<b
 ·rw [decide_eq_true h,decide_eq_false (by omega)];rfl
 rw [decide_eq_false h,decide_eq_true (by omega)];rfl
theorem uP{n:Nat}(hn:5500000≤n){l:List Affine}(hl:vY l)(d:Int):nZ n l d=some (bN l d):=by
 obtain⟨h0,h1⟩:=hl;refine Ev.eq ?_;unfold nZ;refine jI (l:=l) (p:=fun _ a=>bI a d) (by omega) (by omega) (fun again i x hx hgo hno=>?_) (fun again hall=>?_) (fun⟨i,x,hx,hp⟩=>?_)
 ·have hi:=(bO.1 hx).1;have hm:=h1 x (dB hx);rw [decide_eq_true (show(i:Int)<(l.length:Int) by omega)];refine cY (Ev.jn (fun z=>z= !bI x d) (fun j hj=>aB (aT hx) (aB (gR hn x hm) ?_)) fun z hz=>?_)
  ·cases ha:eG x with
   |false=>exact hj _ (by unfold bI;rw [ha];rfl)
   |true=>exact aB (pZ hn hm) (hj _ (by unfold bI;rw [ha,ltd];simp))
  subst hz;cases hb:bI x d with
  |true=>show Ev (again _) _;rw [aN (by omega)];exact hgo hb
  |false=>exact Ev.some (hno hb)
 ·rw [decide_eq_false (show¬(l.length:Int)<(l.length:Int) by omega)];have e:l.all (fun a=>bI a d)=true:=G9.2 fun c hc=>by obtain⟨i,hi⟩:=vAA hc;exact hall i c hi
  unfold bN;rw [e];refine bF (Ev.jn (fun z=>z=decide (1≤l.length∧l.length≤2)) (fun j hj=>aL (fun h=>hj _ ?_) fun h=>hj _ ?_) fun z hz=>Ev.some (by rw [hz];rfl))
  ·by_cases h2:l.length≤2
   ·rw [decide_eq_true (show(l.length:Int)≤2 by omega),decide_eq_true (by omega)]
   rw [decide_eq_false (show¬(l.length:Int)≤2 by omega),decide_eq_false (by omega)]
  rw [decide_eq_false (by omega)]
 unfold bN;rw [U8.2 ⟨x,dB hx,by rw [hp];simp⟩];rfl
theorem xW{n:Nat}(hn:5500000≤n){a:Affine}(ha:SmA a)(d:Int):eX n a d=some (!bI a d):=by
 unfold eX;rw [l7 hn a ha];simp only [jn,Option.bind];cases hb:eG a with
 |false=>simp [bI,hb]
 |true=>
  rw [xV hn ha];simp only [bI,hb,Bool.not_true,cond_false,Bool.true_and];rw [ltd]
theorem mW(n k:Nat):bZ n (k:Int) 1 2=some (decide (1≤k∧k≤2)):=by
 rw [d9];congr 1;by_cases h:1≤k∧k≤2
 ·rw [decide_eq_true h,decide_eq_true (by omega)]
 rw [decide_eq_false h,decide_eq_false (by omega)]
theorem pP{n:Nat}(hn:5500000≤n){l:List Affine}(hl:vY l)(d:Int):kD n l d=some (bN l d):=by
 obtain⟨h0,h1⟩:=hl;unfold kD;rw [mW];have hc:=nG (n:=n) (f:=fun q0=>eX n q0 d) (p:=fun a=> !bI a d) (l:=l) (fun x hx=>xW hn (h1 x hx) d) (by omega) (by omega);simp only [jn,Option.bind];rw [hc];unfold bN;have e:(l.any fun a=> !bI a d)= !(l.all fun a=>bI a d):=by
  rw [vAV];simp
 rw [e];cases decide (1≤l.length∧l.length≤2)<;>simp
def xS{α:Type}(p:Nat→α→Bool)(l:List α):Bool:=l.zipIdx.all fun q=>p q.2 q.1
theorem lG{α:Type}{p:Nat→α→Bool}{l:List α}(h: ∀(i:Nat) x,l[i]? =some x→p i x=true):xS p l=true:=
 G9.2 fun q hq=>h q.2 q.1 (vBp.1 hq)
theorem jA{α:Type}{p:Nat→α→Bool}{l:List α}{i:Nat}{x:α}(h:l[i]? =some x)(hp:p i x=false):xS p l=false:=
 U8.2 ⟨(x,i),vBp.2 h,by rw [hp];simp⟩
theorem xQ{α:Type}{p:Nat→α→Bool}{l:List α}(h:xS p l=true){i:Nat}{x:α}(hx:l[i]? =some x):p i x=true:=
 G9.1 h (x,i) (vBp.2 hx)
def fS(nest:List Loop):Bool:=xS (fun i l=>bN l.lo (i:Int)&&bN l.hi (i:Int)) nest&&decide (nest.length≤4)
def SmN(nest:List Loop):Prop:=nest.length≤1100000∧ ∀l∈nest,vY l.lo∧vY l.hi
theorem xY{n:Nat}(hn:5500000≤n){nest:List Loop}(h:SmN nest):lI n nest=some (fS nest):=by
 obtain⟨h0,h1⟩:=h;refine Ev.eq ?_;unfold lI;refine jI (l:=nest) (p:=fun i l=>bN l.lo (i:Int)&&bN l.hi (i:Int)) (by omega) (by omega) (fun again i x hx hgo hno=>?_) (fun again hall=>?_) (fun⟨i,x,hx,hp⟩=>?_)
 ·have hi:=(bO.1 hx).1;obtain⟨m1,m2⟩:=h1 x (dB hx);rw [decide_eq_true (show(i:Int)<(nest.length:Int) by omega)];refine aB (aT hx) (Ev.jn (fun z=>z= !(bN x.lo (i:Int)&&bN x.hi (i:Int))) (fun j hj=>aB (pP hn m1 _) ?_) fun z hz=>?_)
  ·cases ha:bN x.lo (i:Int) with
   |false=>exact hj _ (by rw [ha];rfl)
   |true=>exact aB (pP hn m2 _) (hj _ (by rw [ha];rfl))
  subst hz;cases hb:(bN x.lo (i:Int)&&bN x.hi (i:Int)) with
  |true=>show Ev (again _) _;rw [aN (by omega)];exact hgo hb
  |false=>exact Ev.some (hno hb)
 ·rw [decide_eq_false (show¬(nest.length:Int)<(nest.length:Int) by omega)];refine Ev.some ?_;unfold fS;rw [lG hall,W4];exact decide_eq_decide.2 (by omega)
 unfold fS;rw [jA hx hp];rfl
theorem wZ{n:Nat}(hn:5500000≤n){nest:List Loop}(h:SmN nest):lA n nest=some (fS nest):=by
 obtain⟨h0,h1⟩:=h;unfold lA;by_cases h4:nest.length≤4
 ·rw [decide_eq_true (show(nest.length:Int)≤4 by omega)];refine Ev.eq ?_;refine jI (l:=nest) (p:=fun i l=>bN l.lo (i:Int)&&bN l.hi (i:Int)) (by omega) (by omega) (fun again i x hx hgo hno=>?_) (fun again hall=>?_) (fun⟨i,x,hx,hp⟩=>?_)
  ·have hi:=(bO.1 hx).1;obtain⟨m1,m2⟩:=h1 x (dB hx);rw [decide_eq_true (show(i:Int)<(nest.length:Int) by omega)];refine Ev.jn (fun z=>z=true) (fun j hj=>cY (hj _ rfl)) fun z hz=>?_;subst hz;refine cY (Ev.jn (fun z=>z= !(bN x.lo (i:Int)&&bN x.hi (i:Int))) (fun j hj=>aB (aT hx) (aB (uP hn m1 _) ?_)) fun z hz=>?_)
   ·cases ha:bN x.lo (i:Int) with
    |false=>exact hj _ (by rw [ha];rfl)
    |true=>exact aB (uP hn m2 _) (hj _ (by rw [ha];rfl))
   subst hz;cases hb:(bN x.lo (i:Int)&&bN x.hi (i:Int)) with
   |true=>show Ev (again _) _;rw [aN (by omega)];exact hgo hb
   |false=>exact Ev.some (hno hb)
  ·rw [decide_eq_false (show¬(nest.length:Int)<(nest.length:Int) by omega)];refine Ev.jn (fun z=>z=false) (fun j hj=>bF (hj _ rfl)) fun z hz=>?_;subst hz;refine Ev.some ?_;unfold fS;rw [lG hall,decide_eq_true h4];rfl
  unfold fS;rw [jA hx hp];rfl
 obtain⟨k,rfl⟩: ∃k,n=k+1:=⟨n-1,by omega⟩
 rw [decide_eq_false (show¬(nest.length:Int)≤4 by omega)];unfold fS;rw [decide_eq_false h4,Bool.and_false];simp only [aM,jn];cases decide ((0:Int)<(nest.length:Int))<;>rfl
def mx:List Int→Int
 | []=>0
 |x::xs=>xs.foldl max x
def mn:List Int→Int
 | []=>0
 |x::xs=>xs.foldl min x
theorem aFi{l:List Int}(h:l≠[])(x:Int):mx (l++[x])=max (mx l) x:=by
 cases l with
 |nil=>exact absurd rfl h
 |cons a l=>simp [mx,List.foldl_append]
theorem aFj{l:List Int}(h:l≠[])(x:Int):mn (l++[x])=min (mn l) x:=by
 cases l with
 |nil=>exact absurd rfl h
 |cons a l=>simp [mn,List.foldl_append]
theorem aFS: ∀(l:List Int) (a:Int),a≤l.foldl max a
 | [],a=>A8 _
 |x::l,a=>Int.le_trans (Int.le_max_left a x) (aFS l (max a x))
theorem aFT: ∀(l:List Int) (a:Int),l.foldl min a≤a
 | [],a=>A8 _
 |x::l,a=>Int.le_trans (aFT l (min a x)) (Int.min_le_left a x)
def evs(l:List Affine)(p:List Int):List Int:=l.map fun a=>d5 a p
def gU(l:Loop)(p:List Int):Int:=mx (evs l.lo p)
def mI(l:Loop)(p:List Int):Int:=mn (evs l.hi p)
def mG(k:Nat)(p:List Int):Prop:=p.length=k∧k≤4∧ptB (100*40^k) p
theorem w9{k:Nat}(h:k≤4):(0:Int)≤100*40^k∧(100:Int)*40^k≤1000000000:=by
 match k,h with
 |0,_=>decide
 |1,_=>decide
 |2,_=>decide
 |3,_=>decide
 |4,_=>decide
theorem tK{l:List Affine}{d:Int}(h:bN l d=true):1≤l.length∧l.length≤2∧ ∀a∈l,eG a=true:=by
 simp only [bN,Bool.and_eq_true,decide_eq_true_eq,List.all_eq_true] at h;refine⟨h.2.1,h.2.2,fun a ha=>?_⟩
 have:=h.1 a ha;simp only [bI,Bool.and_eq_true] at this;exact this.1
theorem aDr{a:Affine}(ha:eG a=true){k:Nat}{p:List Int}(hp:mG k p)(hk:k≤3): -(40*(100*40^k))≤d5 a p∧d5 a p≤40*(100*40^k):=by
 obtain⟨h1,h2,h3⟩:=sV ha;obtain⟨p1,p2,p3⟩:=hp;obtain⟨q1,q2⟩:=w9 (k:=k) (by omega);have hq:(100:Int)≤100*40^k:=by
  match k,hk with
  |0,_=>decide
  |1,_=>decide
  |2,_=>decide
  |3,_=>decide
 generalize (100*40^k:Int)=M at*;have h4:=aD0 (M:=M) q1 (cs:=a.coefs) (xs:=p) h3 fun x hx=>p3 x hx;have h6:9*M*(p.length:Int)≤9*M*3:=Int.mul_le_mul_of_nonneg_left (by omega) (by omega);simp only [zC] at*;unfold d5;omega
theorem aCU{n:Nat}(hn:5500000≤n){a:Affine}(ha:eG a=true){k:Nat}{p:List Int}(hp:mG k p):fG n a p=some (d5 a p):=
 aBw hn ha (by have:=hp.1;have:=hp.2.1;omega) (w9 hp.2.1) hp.2.2
theorem aDl{n:Nat}(hn:5500000≤n){a:Affine}(ha:eG a=true){k:Nat}{p:List Int}(hp:mG k p):bW n a p=some (d5 a p):=
 aBI hn ha (by have:=hp.1;have:=hp.2.1;omega) (w9 hp.2.1) hp.2.2
theorem iB{l:List Affine}{p:List Int}{i:Nat}{a:Affine}(h:l[i]? =some a):(evs l p)[i]? =some (d5 a p):=by unfold evs;rw [List.getElem?_map,h];rfl
theorem wE(l:List Affine)(p:List Int):(evs l p).length=l.length:=vAN ..
theorem aAO{α:Type}{l:List α}{i:Nat}(h:1≤i)(hl:1≤l.length):l.take i≠[]:=by
 intro e
 have:(l.take i).length=0:=by rw [e];rfl
 rw [A7] at this;omega
theorem aAY{l:List Int}{i:Nat}{x:Int}(h:l[i]? =some x)(hi:1≤i):mx (l.take (i+1))=max (mx (l.take i)) x:=by have:=(bO.1 h).1;rw [vAI,h];exact aFi (aAO hi (by omega)) x
theorem aA0{l:List Int}{i:Nat}{x:Int}(h:l[i]? =some x)(hi:1≤i):mn (l.take (i+1))=min (mn (l.take i)) x:=by have:=(bO.1 h).1;rw [vAI,h];exact aFj (aAO hi (by omega)) x
theorem X8{l:List Int}{x:Int}(h:l[0]? =some x):mx (l.take 1)=x:=by
 cases l with
 |nil=>simp at h
 |cons a l=>simp at h;subst h;rfl
theorem X9{l:List Int}{x:Int}(h:l[0]? =some x):mn (l.take 1)=x:=by
 cases l with
 |nil=>simp at h
 |cons a l=>simp at h;subst h;rfl
theorem wX{n:Nat}(hn:5500000≤n){l:Loop}{d d':Int}(h1:bN l.lo d=true)(h2:bN l.hi d'=true){k:Nat}{p:List Int}(hp:mG k p):lZ n l p=some (gU l p,mI l p):=by
 obtain⟨a1,a2,a3⟩:=tK h1;obtain⟨b1,b2,b3⟩:=tK h2;have g1:=dC (show 0<l.lo.length by omega);have g2:=dC (show 0<l.hi.length by omega);refine Ev.eq ?_;unfold lZ;refine aB (aT (i:=0) g1) (aB (aCU hn (a3 _ (dB g1)) hp) (aB (aT (i:=0) g2) (aB (aCU hn (b3 _ (dB g2)) hp) ?_)));refine Ev.loop (fun x:Int×Int=> ∃i:Nat,x.2=i∧1≤i∧i≤l.lo.length∧x.1=mx ((evs l.lo p).take i)) (fun x=>l.lo.length-x.2.toNat) ?_ n _ ⟨1,rfl,by omega,by omega,(X8 (iB g1)).symm⟩ (by dsimp only;omega);rintro again ⟨x,z⟩ ⟨i,hz,hi1,hi,hx⟩ hr;dsimp only at hz hx⊢;subst hz;refine aL (fun hlt=>?_) fun hge=>?_
 ·have g:=dC (show i<l.lo.length by omega);have e:=aAY (iB (p:=p) g) hi1;refine Ev.jn (fun z=>z=mx ((evs l.lo p).take (i+1))) (fun j hj=>aB (aT g) (aB (aCU hn (a3 _ (dB g)) hp) (aL (fun h=>hj _ ?_) fun h=>hj _ ?_))) fun z hz=>?_
  ·rw [e,←hx];omega
  ·rw [e,←hx];omega
  rw [aN (by omega)];exact hr _ ⟨i+1,by dsimp only;omega,by omega,by omega,hz⟩ (by dsimp only;omega)
 have hie:i=l.lo.length:=by omega
 have hx':x=gU l p:=by rw [hx,hie,←wE l.lo p,zG];rfl
 refine Ev.loop (fun x:Int×Int=> ∃i:Nat,x.2=i∧1≤i∧i≤l.hi.length∧x.1=mn ((evs l.hi p).take i)) (fun x=>l.hi.length-x.2.toNat) ?_ n _ ⟨1,rfl,by omega,by omega,(X9 (iB g2)).symm⟩ (by dsimp only;omega);rintro again2 ⟨y,z⟩ ⟨i,hz,hi1,hi,hy⟩ hr2;dsimp only at hz hy⊢;subst hz;refine aL (fun hlt=>?_) fun hge=>Ev.some ?_
 ·have g:=dC (show i<l.hi.length by omega);have e:=aA0 (iB (p:=p) g) hi1;refine Ev.jn (fun z=>z=mn ((evs l.hi p).take (i+1))) (fun j hj=>aB (aT g) (aB (aCU hn (b3 _ (dB g)) hp) (aL (fun h=>hj _ ?_) fun h=>hj _ ?_))) fun z hz=>?_
  ·rw [e,←hy];omega
  ·rw [e,←hy];omega
  rw [aN (by omega)];exact hr2 _ ⟨i+1,by dsimp only;omega,by omega,by omega,hz⟩ (by dsimp only;omega)
 have hie:i=l.hi.length:=by omega
 rw [hx',hy,hie,←wE l.hi p,zG];rfl
theorem aBG{n:Nat}(hn:5500000≤n){l:Loop}{d d':Int}(h1:bN l.lo d=true)(h2:bN l.hi d'=true){k:Nat}{p:List Int}(hp:mG k p):lJ n l p=some (gU l p,mI l p):=by
 obtain⟨a1,a2,a3⟩:=tK h1;obtain⟨b1,b2,b3⟩:=tK h2;have g1:=dC (show 0<l.lo.length by omega);have g2:=dC (show 0<l.hi.length by omega);refine Ev.eq ?_;unfold lJ;refine aB (aT (i:=0) g1) (aB (aDl hn (a3 _ (dB g1)) hp) (aB (aT (i:=0) g2) (aB (aDl hn (b3 _ (dB g2)) hp) ?_)));refine Ev.loop (fun x:Int×Int=> ∃i:Nat,x.2=i∧i≤l.lo.length∧x.1=mx ((evs l.lo p).take (max i 1))) (fun x=>l.lo.length-x.2.toNat) ?_ n _ ⟨0,rfl,by omega,(X8 (iB g1)).symm⟩ (by dsimp only;omega);rintro again ⟨x,z⟩ ⟨i,hz,hi,hx⟩ hr;dsimp only at hz hx⊢;subst hz;refine aL (fun hlt=>?_) fun hge=>?_
 ·have g:=dC (show i<l.lo.length by omega);refine aB (aT g) (aB (aDl hn (a3 _ (dB g)) hp) ?_);rw [aN (by omega)];refine hr _ ⟨i+1,by dsimp only;omega,by omega,?_⟩ (by dsimp only;omega);dsimp only;rw [show max (i+1) 1=i+1 by omega];cases i with
  |zero=>rw [hx,show max 0 1=1 by rfl,kO,X8 (iB g)];omega
  |succ i=>rw [aAY (iB (p:=p) g) (by omega),hx,show max (i+1) 1=i+1 by omega]
 have hie:i=l.lo.length:=by omega
 have hx':x=gU l p:=by rw [hx,hie,Nat.max_eq_left (by omega),←wE l.lo p,zG];rfl
 refine Ev.loop (fun x:Int×Int=> ∃i:Nat,x.2=i∧i≤l.hi.length∧x.1=mn ((evs l.hi p).take (max i 1))) (fun x=>l.hi.length-x.2.toNat) ?_ n _ ⟨0,rfl,by omega,(X9 (iB g2)).symm⟩ (by dsimp only;omega);rintro again2 ⟨y,z⟩ ⟨i,hz,hi,hy⟩ hr2;dsimp only at hz hy⊢;subst hz;refine aL (fun hlt=>?_) fun hge=>Ev.some ?_
 ·have g:=dC (show i<l.hi.length by omega);refine aB (aT g) (aB (aDl hn (b3 _ (dB g)) hp) ?_);rw [aN (by omega)];refine hr2 _ ⟨i+1,by dsimp only;omega,by omega,?_⟩ (by dsimp only;omega);dsimp only;rw [show max (i+1) 1=i+1 by omega];cases i with
  |zero=>rw [hy,show max 0 1=1 by rfl,kO,X9 (iB g)];omega
  |succ i=>rw [aA0 (iB (p:=p) g) (by omega),hy,show max (i+1) 1=i+1 by omega]
 have hie:i=l.hi.length:=by omega
 rw [hx',hy,hie,Nat.max_eq_left (by omega),←wE l.hi p,zG];rfl
theorem v7{l:Loop}{d d':Int}(h1:bN l.lo d=true)(h2:bN l.hi d'=true){k:Nat}{p:List Int}(hp:mG k p)(hk:k≤3){v:Int}(hv:gU l p≤v∧v<mI l p):mG (k+1) (p++[v]):=by
 obtain⟨a1,a2,a3⟩:=tK h1;obtain⟨b1,b2,b3⟩:=tK h2;have e1: -(40*(100*40^k))≤gU l p:=by
  cases hl:l.lo with
  |nil=>rw [hl] at a1;simp at a1
  |cons a as=>
   have:=(aDr (a3 a (by rw [hl];simp)) hp hk).1;unfold gU evs;rw [hl];exact Int.le_trans this (aFS _ _)
 have e2:mI l p≤40*(100*40^k):=by
  cases hl:l.hi with
  |nil=>rw [hl] at b1;simp at b1
  |cons a as=>
   have:=(aDr (b3 a (by rw [hl];simp)) hp hk).2;unfold mI evs;rw [hl];exact Int.le_trans (aFT _ _) this
 obtain⟨p1,p2,p3⟩:=hp;have e3:(100*40^(k+1):Int)=40*(100*40^k):=by rw [Int.pow_succ];omega
 have q:=(w9 (k:=k) (by omega)).1;refine⟨by simp [p1],by omega,fun x hx=>?_⟩;rw [e3];rcases zB.1 hx with h|h
 ·have:=p3 x h;simp only [zC] at this⊢;omega
 simp at h;subst h;simp only [zC];omega
def pts:List Loop→List Int→List (List Int)
 | [],p=>[p]
 |l::ls,p=>(gS (gU l p) (mI l p)).flatMap fun v=>pts ls (p++[v])
def wk:List Loop→List Int→Int
 | [],_=>1
 |l::ls,p=>1+((gS (gU l p) (mI l p)).map fun v=>wk ls (p++[v])).sum
theorem mM{α:Type}(f:α→Int): ∀(l:List α),(∀x∈l,1≤f x)→(l.length:Int)≤(l.map f).sum
 | [],_=>by simp
 |x::l,h=>by have h1:=mM f l fun y hy=>h y (by simp [hy]);have h2:=h x (by simp);simp only [List.map_cons,List.sum_cons,List.length_cons];omega
theorem G7: ∀(ls:List Loop) (p:List Int),1≤wk ls p
 | [],p=>A8 _
 |l::ls,p=>by have:=mM (fun v=>wk ls (p++[v])) (gS (gU l p) (mI l p)) fun v _=>G7 ls _;simp only [wk];omega
def Fit(nest:List Loop):Prop:=nest.length≤4∧ ∀(i:Nat) l,nest[i]? =some l→bN l.lo (i:Int)=true∧bN l.hi (i:Int)=true
theorem J2{nest:List Loop}(h:fS nest=true):Fit nest:=by
 simp only [fS,Bool.and_eq_true,decide_eq_true_eq] at h;refine⟨h.2,fun i l hl=>?_⟩
 have:=xQ h.1 hl;simpa [Bool.and_eq_true] using this
theorem pE{nest:List Loop}{k:Nat}{l:Loop}{ls:List Loop}(h:nest.drop k=l::ls):nest[k]? =some l∧nest.drop (k+1)=ls∧k<nest.length:=by
 have h1:(nest.drop k)[0]? =some l:=by rw [h];rfl
 rw [U6,vBr] at h1;refine⟨h1,?_,(bO.1 h1).1⟩
 have:(nest.drop k).drop 1=ls:=by rw [h];rfl
 rwa [List.drop_drop] at this
theorem r8{nest:List Loop}{k:Nat}(h:nest.drop k=[])(hk:k≤nest.length):k=nest.length:=by
 have:(nest.drop k).length=0:=by rw [h];rfl
 rw [vBm] at this;omega
theorem lM(p:List Int)(h:p.length≤1100000):app [] p=some p:=by rw [fD (by simp;omega)];rfl
theorem O5(l:List Int)(f:Int→Int)(v:Int):((l++[v]).map f).sum=(l.map f).sum+f v:=by simp
theorem aFa{lo v:Int}(h:lo≤v):((gS lo v).length:Int)=v-lo:=by unfold gS;simp;omega
theorem B1{nest:List Loop}(hf:Fit nest): ∀(ls:List Loop) (n k:Nat) (p:List Int) (most:Int),5500000+ls.length≤n→nest.drop k=ls→k≤nest.length→mG k p→0≤most→most≤1200→
  Ev (s_l2Work n nest p most) (fun r=>(wk ls p≤most→r=wk ls p)∧(most<wk ls p→most<r)∧1≤r∧r≤most+1)
 | [],n,k,p,most,hn,hd,hk,hp,h0,h1=>by
  obtain⟨n,rfl⟩: ∃j,n=j+1:=⟨n-1,by omega⟩
  have hk':=r8 hd hk;have hpl:=hp.1;unfold s_l2Work;rw [decide_eq_true (show(p.length:Int)=(nest.length:Int) by omega)];exact Ev.some ⟨fun _=>rfl,fun h=>by simp only [wk] at h;omega,by omega,by omega⟩
 |l::ls,n,k,p,most,hn,hd,hk,hp,h0,h1=>by
  obtain⟨n,rfl⟩: ∃j,n=j+1:=⟨n-1,by omega⟩
  obtain⟨d1,d2,d3⟩:=pE hd;obtain⟨s1,s2⟩:=hf.2 k l d1;have hpl:=hp.1;have hk3:k≤3:=by have:=hf.1;omega
  simp only [List.length_cons] at hn;unfold s_l2Work;rw [decide_eq_false (show¬(p.length:Int)=(nest.length:Int) by omega)];refine bF (aB (x:=l) (by rw [hpl];exact aT d1) (aB (wX (by omega) s1 s2 hp) ?_));let f:Int→Int:=fun v=>wk ls (p++[v]);have hfp: ∀v,1≤f v:=fun v=>G7 _ _;have hW:wk (l::ls) p=1+((gS (gU l p) (mI l p)).map f).sum:=rfl;refine Ev.loop (fun x:Int×Int=>gU l p≤x.2∧(x.2≤mI l p∨x.2=gU l p)∧(1+((gS (gU l p) x.2).map f).sum≤most→x.1=1+((gS (gU l p) x.2).map f).sum)∧(most<1+((gS (gU l p) x.2).map f).sum→most<x.1)∧1≤x.1∧x.1≤most+1)
   (fun x=>(most+1-x.1).toNat) ?_ n _ ⟨A8 _,.inr rfl,fun _=>by rw [eU (A8 _)];rfl,fun h=>by rw [eU (A8 _)] at h;simp at h;dsimp only;omega,by dsimp only;omega,by dsimp only;omega⟩ (by dsimp only;omega)
  rintro again ⟨x,v⟩ ⟨i1,i2,i3,i4,i5,i6⟩ hr;dsimp only at i1 i2 i3 i4 i5 i6⊢;refine Ev.jn (fun z=>z=decide (v<mI l p∧x≤most)) (fun j hj=>aL (fun h=>hj _ ?_) fun h=>hj _ ?_) fun z hz=>?_
  ·by_cases hx:x≤most
   ·rw [decide_eq_true hx,decide_eq_true ⟨h,hx⟩]
   rw [decide_eq_false hx,decide_eq_false fun h=>hx h.2]
  ·rw [decide_eq_false fun h'=>h h'.1]
  subst hz;refine aL (fun⟨hv,hx⟩=>?_) fun hno=>Ev.some ?_
  ·have hsum:x=1+((gS (gU l p) v).map f).sum:=i3 (by apply Int.not_lt.1;intro h;have:=i4 h;omega);have hp':=v7 s1 s2 hp hk3 ⟨i1,hv⟩;have e1:wr (most-x)=most-x:=by rw [aN (by omega)]
   rw [e1];refine aB (lM p (by omega)) (aB (fD (by simp;omega)) (gI (B1 hf ls n (k+1) (p++[v]) (most-x) (by omega) d2 (by omega) hp' (by omega) (by omega)) fun r ⟨r1,r2,r3,r4⟩=>?_));have hvb:v<mI l p:=hv;have hvr: -1000000000≤v∧v≤1000000000:=by
    have h9:=hp'.2.2 v (by simp);have h8:=w9 hp'.2.1;simp only [zC] at h9;omega
   rw [aN (n:=v+1) (by omega),aN (n:=x+r) (by omega)];have hs:1+((gS (gU l p) (v+1)).map f).sum=x+f v:=by rw [jX i1,O5,hsum];omega
   refine hr _ ⟨by dsimp only;omega,.inl (by dsimp only;omega),?_,?_,by dsimp only;omega,by dsimp only;omega⟩ (by dsimp only;omega)
   ·dsimp only;rw [hs];intro h
    have:r=f v:=r1 (show f v≤most-x by omega);omega
   dsimp only;rw [hs];intro h
   have:most-x<r:=r2 (show most-x<f v by omega);omega
  have hmono:1+((gS (gU l p) v).map f).sum≤wk (l::ls) p∧(mI l p≤v→1+((gS (gU l p) v).map f).sum=wk (l::ls) p):=by
   rw [hW];by_cases h:v<mI l p
   ·refine⟨?_,fun h'=>by omega⟩;rw [o5 i1 h,vBb,List.sum_append,List.map_cons,List.sum_cons]
    have:=mM f (gS (v+1) (mI l p)) fun y _=>hfp y
    have:=hfp v;omega
   have:gS (gU l p) v=gS (gU l p) (mI l p):=by
    rcases i2 with h2|h2
    ·rw [show v=mI l p by omega]
    subst h2;rw [eU (A8 _),eU (by omega)]
   rw [this];exact⟨A8 _,fun _=>rfl⟩
  refine⟨fun h=>?_,fun h=>?_,i5,i6⟩
  ·have hx:=i3 (by omega);rw [hx];apply hmono.2;apply Int.not_lt.1;intro hv;exact hno ⟨hv,by omega⟩
  apply Int.not_le.1;intro hx;have hv:mI l p≤v:=by apply Int.not_lt.1;intro hv;exact hno ⟨hv,hx⟩
  have:=i4 (by rw [hmono.2 hv];exact h);omega
theorem uN{nest:List Loop}(hf:Fit nest): ∀(ls:List Loop) (n k:Nat) (p:List Int) (out:List (List Int)),5500000+ls.length≤n→nest.drop k=ls→k≤nest.length→mG k p→wk ls p≤1200→out.length≤120→
  Ev (s_l2Points n out nest p) (fun r=>(out.length+(pts ls p).length≤120→r=out++pts ls p)∧(120<out.length+(pts ls p).length→120<r.length))
 | [],n,k,p,out,hn,hd,hk,hp,h0,h1=>by
  obtain⟨n,rfl⟩: ∃j,n=j+1:=⟨n-1,by omega⟩
  have hk':=r8 hd hk;have hpl:=hp.1;have hf1:=hf.1;unfold s_l2Points;rw [decide_eq_true (show(p.length:Int)=(nest.length:Int) by omega)];refine cY (aB (lM p (by omega)) (aB (fD (by simp;omega)) (Ev.some ⟨fun _=>rfl,fun h=>by simp [pts] at h ⊢; omega⟩)))
 |l::ls,n,k,p,out,hn,hd,hk,hp,h0,h1=>by
  obtain⟨n,rfl⟩: ∃j,n=j+1:=⟨n-1,by omega⟩
  obtain⟨d1,d2,d3⟩:=pE hd;obtain⟨s1,s2⟩:=hf.2 k l d1;have hpl:=hp.1;have hf1:=hf.1;have hk3:k≤3:=by omega
  simp only [List.length_cons] at hn;unfold s_l2Points;rw [decide_eq_false (show¬(p.length:Int)=(nest.length:Int) by omega)];refine bF (aB (x:=l) (by rw [hpl];exact aT d1) (aB (wX (by omega) s1 s2 hp) ?_));let f:Int→Int:=fun v=>wk ls (p++[v]);have hfp: ∀v,1≤f v:=fun v=>G7 _ _;have hW:wk (l::ls) p=1+((gS (gU l p) (mI l p)).map f).sum:=rfl;let g:Int→List (List Int):=fun v=>pts ls (p++[v]);have hP:pts (l::ls) p=(gS (gU l p) (mI l p)).flatMap g:=rfl;have hlen:gU l p≤mI l p→mI l p-gU l p≤1199:=fun hle=>by
   have:=mM f (gS (gU l p) (mI l p)) fun y _=>hfp y
   have:=aFa hle;omega
  refine Ev.loop (fun x:List (List Int)×Int=>gU l p≤x.2∧(x.2≤mI l p∨x.2=gU l p)∧(out.length+((gS (gU l p) x.2).flatMap g).length≤120→x.1=out++(gS (gU l p) x.2).flatMap g)∧(120<out.length+((gS (gU l p) x.2).flatMap g).length→120<x.1.length))
   (fun x=>(mI l p-x.2).toNat) ?_ n _ ⟨A8 _,.inr rfl,fun _=>by rw [eU (A8 _)];simp,fun h=>by rw [eU (A8 _)] at h;simp at h;omega⟩ (by dsimp only;omega)
  rintro again ⟨x,v⟩ ⟨i1,i2,i3,i4⟩ hr;dsimp only at i1 i2 i3 i4⊢;refine Ev.jn (fun z=>z=decide (v<mI l p∧x.length≤120)) (fun j hj=>aL (fun h=>hj _ ?_) fun h=>hj _ ?_) fun z hz=>?_
  ·by_cases hx:x.length≤120
   ·rw [decide_eq_true (show(x.length:Int)≤120 by omega),decide_eq_true ⟨h,hx⟩]
   rw [decide_eq_false (show¬(x.length:Int)≤120 by omega),decide_eq_false fun h=>hx h.2]
  ·rw [decide_eq_false fun h'=>h h'.1]
  subst hz;refine aL (fun⟨hv,hx⟩=>?_) fun hno=>Ev.some ?_
  ·have hxe:x=out++(gS (gU l p) v).flatMap g:=i3 (by apply Nat.not_lt.1;intro h;have:=i4 h;omega);have hp':=v7 s1 s2 hp hk3 ⟨i1,hv⟩;have hwc:f v≤1200:=by
    rw [hW,o5 i1 hv,vBb,List.sum_append,List.map_cons,List.sum_cons] at h0
    have:=mM f (gS (v+1) (mI l p)) fun y _=>hfp y
    have:=mM f (gS (gU l p) v) fun y _=>hfp y;omega
   refine aB (lM p (by omega)) (aB (fD (by simp;omega)) (gI (uN hf ls n (k+1) (p++[v]) x (by omega) d2 (by omega) hp' hwc hx) fun r ⟨r1,r2⟩=>?_));have hvr: -1000000000≤v∧v≤1000000000:=by
    have h9:=hp'.2.2 v (by simp);have h8:=w9 hp'.2.1;simp only [zC] at h9;omega
   rw [aN (n:=v+1) (by omega)];have hs:(gS (gU l p) (v+1)).flatMap g=(gS (gU l p) v).flatMap g++g v:=by rw [jX i1,vAT];simp
   refine hr _ ⟨by dsimp only;omega,.inl (by dsimp only;omega),?_,?_⟩ (by dsimp only;omega)
   ·dsimp only;rw [hs];intro h;simp only [List.length_append] at h;have hl:x.length=out.length+((gS (gU l p) v).flatMap g).length:=by rw [hxe,jK]
    rw [r1 (show x.length+(g v).length≤120 by omega),hxe,U9]
   dsimp only;rw [hs];intro h;simp only [List.length_append] at h;have hl:x.length=out.length+((gS (gU l p) v).flatMap g).length:=by rw [hxe,jK]
   exact r2 (show 120<x.length+(g v).length by omega)
  have hmono:((gS (gU l p) v).flatMap g).length≤(pts (l::ls) p).length∧(mI l p≤v→(gS (gU l p) v).flatMap g=pts (l::ls) p):=by
   rw [hP];by_cases h:v<mI l p
   ·refine⟨?_,fun h'=>by omega⟩;rw [o5 i1 h,vAT,jK];omega
   have:gS (gU l p) v=gS (gU l p) (mI l p):=by
    rcases i2 with h2|h2
    ·rw [show v=mI l p by omega]
    subst h2;rw [eU (A8 _),eU (by omega)]
   rw [this];exact⟨iV _,fun _=>rfl⟩
  refine⟨fun h=>?_,fun h=>?_⟩
  ·have hx:=i3 (by omega);rw [hx,hmono.2];apply Int.not_lt.1;intro hv;exact hno ⟨hv,by rw [hx,jK];omega⟩
  apply Nat.not_le.1;intro hx;have hv:mI l p≤v:=by apply Int.not_lt.1;intro hv;exact hno ⟨hv,hx⟩
  have:=i4 (by rw [hmono.2 hv];exact h);omega
theorem D5{nest:List Loop}(hf:Fit nest): ∀(ls:List Loop) (n k:Nat) (p:List Int) (st:Int) (out:List (List Int)),5500000+ls.length≤n→nest.drop k=ls→k≤nest.length→mG k p→0≤st→st≤1199→out.length≤120→
  Ev (i_walking_walk n ⟨nest,st,out⟩ p) (fun r=>(st+wk ls p≤1200∧out.length+(pts ls p).length≤120→r=(true,⟨nest,st+wk ls p-1,out++pts ls p⟩))∧(¬(st+wk ls p≤1200∧out.length+(pts ls p).length≤120)→r.1=false))
 | [],n,k,p,st,out,hn,hd,hk,hp,h0,h1,h2=>by
  obtain⟨n,rfl⟩: ∃j,n=j+1:=⟨n-1,by omega⟩
  have hk':=r8 hd hk;have hpl:=hp.1;have hf1:=hf.1;unfold i_walking_walk;dsimp only;rw [decide_eq_true (show(p.length:Int)=(nest.length:Int) by omega)];have hc:m_ownClone p=some p:=by unfold m_ownClone;rw [if_pos (by omega)]
  refine cY (aB hc (aB (fD (by simp;omega)) (Ev.some ⟨fun h=>?_,fun h=>?_⟩)))
  ·simp only [wk,pts,List.length_singleton] at h⊢;rw [decide_eq_true (by simp;omega),show st+1-1=st by omega]
  simp only [wk,pts,List.length_singleton] at h⊢;exact decide_eq_false (by simp;omega)
 |l::ls,n,k,p,st,out,hn,hd,hk,hp,h0,h1,h2=>by
  obtain⟨n,rfl⟩: ∃j,n=j+1:=⟨n-1,by omega⟩
  obtain⟨d1,d2,d3⟩:=pE hd;obtain⟨s1,s2⟩:=hf.2 k l d1;have hpl:=hp.1;have hf1:=hf.1;have hk3:k≤3:=by omega
  simp only [List.length_cons] at hn;unfold i_walking_walk;dsimp only;rw [decide_eq_false (show¬(p.length:Int)=(nest.length:Int) by omega)];refine bF (aB (x:=l) (by rw [hpl];exact aT d1) (aB (aBG (by omega) s1 s2 hp) ?_));let f:Int→Int:=fun v=>wk ls (p++[v]);have hfp: ∀v,1≤f v:=fun v=>G7 _ _;have hW:wk (l::ls) p=1+((gS (gU l p) (mI l p)).map f).sum:=rfl;let g:Int→List (List Int):=fun v=>pts ls (p++[v]);have hP:pts (l::ls) p=(gS (gU l p) (mI l p)).flatMap g:=rfl;refine Ev.loop (fun x:List Loop×Int×List (List Int)×Int=>x.1=nest∧gU l p≤x.2.2.2∧(x.2.2.2≤mI l p∨x.2.2.2=gU l p)∧x.2.1=st+((gS (gU l p) x.2.2.2).map f).sum∧x.2.2.1=out++(gS (gU l p) x.2.2.2).flatMap g∧0≤x.2.1∧x.2.1≤1199∧x.2.2.1.length≤120)
   (fun x=>(1200-x.2.1).toNat) ?_ n _ ⟨rfl,A8 _,.inr rfl,by dsimp only;rw [eU (A8 _)];simp,by dsimp only;rw [eU (A8 _)];simp,h0,h1,h2⟩ (by dsimp only;omega)
  rintro again ⟨nst,x,o,v⟩ ⟨i0,i1,i2,i3,i4,i5,i6,i7⟩ hr;dsimp only at i0 i1 i2 i3 i4 i5 i6 i7⊢;subst i0;have hol:o.length=out.length+((gS (gU l p) v).flatMap g).length:=by rw [i4,jK]
  refine aL (fun hv=>?_) fun hv=>Ev.some ?_
  ·have hp':=v7 s1 s2 hp hk3 ⟨i1,hv⟩;have hrest:wk (l::ls) p≥1+((gS (gU l p) v).map f).sum+f v∧(pts (l::ls) p).length≥((gS (gU l p) v).flatMap g).length+(g v).length:=by
    rw [hW,hP,o5 i1 hv,vBb,List.sum_append,List.map_cons,List.sum_cons,vAT,jK,List.flatMap_cons,jK]
    have:=mM f (gS (v+1) (mI l p)) fun y _=>hfp y;constructor
    ·omega
    omega
   have hvr: -1000000000≤v∧v≤1000000000:=by
    have h9:=hp'.2.2 v (by simp);have h8:=w9 hp'.2.1;simp only [zC] at h9;omega
   have e1:wr (x+1)=x+1:=by rw [aN (by omega)]
   have e2:wr (x+1+1)=x+1+1:=by rw [aN (by omega)]
   have e3:wr (v+1)=v+1:=by rw [aN (by omega)]
   rw [e1,e2,e3];refine Ev.jn (fun z:List Loop×Int×List (List Int)×Bool=>(z.2.2.2=false→z.1=nst∧x+f v≤1199∧o.length+(g v).length≤120∧z.2.1=x+f v∧z.2.2.1=o++g v)∧(z.2.2.2=true→ ¬(st+wk (l::ls) p≤1200∧out.length+(pts (l::ls) p).length≤120)))
    (fun j hj=>aL (fun h=>hj _ ⟨fun h'=>(by cases h'),fun _=>?_⟩) fun h=>?_) fun z hz=>?_
   ·have:=hfp v;omega
   ·have hc:m_ownClone p=some p:=by unfold m_ownClone;rw [if_pos (by omega)]
    refine aB hc (aB (fD (by simp;omega)) (gI (D5 hf ls n (k+1) (p++[v]) (x+1) o (by omega) d2 (by omega) hp' (by omega) (by omega) i7) fun r ⟨r1,r2⟩=>?_));by_cases hc:x+1+f v≤1200∧o.length+(g v).length≤120
    ·rw [r1 hc];exact hj _ ⟨fun _=>⟨rfl,by omega,hc.2,show x+1+f v-1=x+f v by omega,rfl⟩,fun h=>(by cases h)⟩
    have hr1:=r2 hc;obtain⟨rb,⟨rn,rs,ro⟩⟩:=r;dsimp only at hr1⊢;subst hr1;exact hj _ ⟨fun h=>(by cases h),fun _=>by omega⟩
   obtain⟨za,zb,zc,zd⟩:=z;obtain⟨z2,z3⟩:=hz;dsimp only at z2 z3⊢;cases zd with
   |true=>exact Ev.some ⟨fun h=>absurd h (z3 rfl),fun _=>rfl⟩
   |false=>
    obtain⟨rfl,y1,y2,y3,y4⟩:=z2 rfl;refine hr _ ⟨rfl,by dsimp only;omega,.inl (by dsimp only;omega),?_,?_,by dsimp only;have:=hfp v;omega,by dsimp only;omega,?_⟩ (by dsimp only;have:=hfp v;omega)
    ·dsimp only;rw [jX i1,O5,y3,i3];omega
    ·dsimp only;rw [y4,i4,jX i1,vAT];simp
    dsimp only;rw [y4,jK];exact y2
  have:gS (gU l p) v=gS (gU l p) (mI l p):=by
   rcases i2 with h2|h2
   ·rw [show v=mI l p by omega]
   subst h2;rw [eU (A8 _),eU (by omega)]
  rw [this] at i3 i4 hol;rw [←hP] at i4 hol;refine⟨fun h=>?_,fun h=>?_⟩
  ·rw [i4,i3,hW,show st+(1+((gS (gU l p) (mI l p)).map f).sum)-1=st+((gS (gU l p) (mI l p)).map f).sum by omega]
  exact absurd ⟨by omega,by omega⟩ h
def NP(nest:List Loop):Option (List (List Int)):=if fS nest=true∧wk nest []≤1200∧(pts nest []).length≤120 then some (pts nest []) else none
def aAa:Option (List (List Int))→List (List Int)×Bool
 |none=>([],false)
 |some l=>(l,true)
theorem pt0:mG 0 []:=⟨rfl,by omega,fun x h=>by cases h⟩
theorem vV{n:Nat}(hn:6600000≤n){nest:List Loop}(h:SmN nest):jB n nest=some (aAa (NP nest)):=by
 refine Ev.eq ?_;unfold jB;refine aB (xY (by omega) h) ?_;unfold NP;cases hv:fS nest with
 |false=>exact Ev.some (by simp [aAa])
 |true=>
  have hf:=J2 hv;refine gI (D5 hf nest n 0 [] 0 [] (by have:=hf.1;omega) rfl (by omega) pt0 (by omega) (by omega) (by simp)) fun r ⟨r1,r2⟩=>?_;by_cases hc:(0:Int)+wk nest []≤1200∧([]:List (List Int)).length+(pts nest []).length≤120
  ·rw [r1 hc,if_pos ⟨rfl,by omega,by simpa using hc.2⟩];exact Ev.some (by simp [aAa])
  rw [r2 hc,if_neg fun h=>hc ⟨by omega,by simpa using h.2.2⟩];exact Ev.some rfl
theorem vQ{n:Nat}(hn:6600000≤n){nest:List Loop}(h:SmN nest):iY n nest=some (aAa (NP nest)):=by
 refine Ev.eq ?_;unfold iY;refine Ev.jn (fun z=>z= !(fS nest&&decide (wk nest []≤1200))) (fun j hj=>aB (wZ (by omega) h) ?_) fun z hz=>?_
 ·cases hv:fS nest with
  |false=>exact hj _ (by rw [hv];rfl)
  |true=>
   have hf:=J2 hv;refine gI (B1 hf nest n 0 [] 1200 (by have:=hf.1;omega) rfl (by omega) pt0 (by omega) (by omega)) fun r ⟨r1,r2,r3,r4⟩=>hj _ ?_;rw [hv,W4];by_cases hw:wk nest []≤1200
   ·rw [decide_eq_true hw,decide_eq_false (by rw [r1 hw];omega)];rfl
   rw [decide_eq_false hw,decide_eq_true (r2 (by omega))];rfl
 subst hz;unfold NP;cases hv:fS nest with
 |false=>exact Ev.some (by simp [aAa])
 |true=>
  have hf:=J2 hv;by_cases hw:wk nest []≤1200
  ·rw [decide_eq_true hw];refine gI (uN hf nest n 0 [] [] (by have:=hf.1;omega) rfl (by omega) pt0 hw (by simp)) fun r ⟨r1,r2⟩=>?_;by_cases hl:(pts nest []).length≤120
   ·rw [r1 (by simpa using hl),if_pos ⟨rfl,hw,hl⟩];refine aL (fun h=>absurd h (by simp;omega)) fun _=>Ev.some (by simp [aAa])
   have:=r2 (by simp;omega);rw [if_neg fun h=>hl h.2.2];exact aL (fun _=>Ev.some rfl) fun h=>absurd h (by omega)
  rw [decide_eq_false hw,if_neg fun h=>hw h.2.1];exact Ev.some rfl
def jY(s:List UInt8):Bool:=match s with
 | [b]=>decide (65≤b.toNat∧b.toNat≤68)
 |_=>false
theorem qE{s:List UInt8}(h:s.length≠1):jY s=false:=by
 match s,h with
 | [],_=>rfl
 | [b],h=>exact absurd rfl h
 |_::_::_,_=>rfl
theorem aGD{s:List UInt8}(h:s.length=1): ∃b,s=[b]:=by
 match s,h with
 | [b],_=>exact⟨b,rfl⟩
theorem aCp(b:UInt8)(k:Nat)(hk:k<256):(b=UInt8.ofNat k)↔b.toNat=k:=by
 constructor
 ·intro h;rw [h];simp;omega
 intro h;rw [←h];simp
theorem zP(b:UInt8):Lib.contains [65,66,67,68] [b]=decide (65≤b.toNat∧b.toNat≤68):=by
 have e1:(b=65)↔b.toNat=65:=aCp b 65 (by omega);have e2:(b=66)↔b.toNat=66:=aCp b 66 (by omega);have e3:(b=67)↔b.toNat=67:=aCp b 67 (by omega);have e4:(b=68)↔b.toNat=68:=aCp b 68 (by omega);by_cases h1:b=65
 ·subst h1;decide
 by_cases h2:b=66
 ·subst h2;decide
 by_cases h3:b=67
 ·subst h3;decide
 by_cases h4:b=68
 ·subst h4;decide
 rw [e1] at h1;rw [e2] at h2;rw [e3] at h3;rw [e4] at h4;rw [decide_eq_false (by omega)];rw [←e1] at h1;rw [←e2] at h2;rw [←e3] at h3;rw [←e4] at h4;simp [Lib.contains,Lib.index,h1,h2,h3,h4]
theorem rZ(n:Nat)(s:List UInt8):l6 n s=some (jY s):=by
 unfold l6;by_cases h:s.length=1
 ·obtain⟨b,rfl⟩:=aGD h;simp only [jn,m_contains];rw [if_pos (by simp),zP];rfl
 rw [decide_eq_false (show¬(s.length:Int)=1 by omega),qE h];rfl
theorem xJ(b:UInt8):Op.bytesLess [b] [65]=decide (b.toNat<65):=by simp [Op.bytesLess,UInt8.lt_iff_toNat_lt]
theorem xI(b:UInt8):(Op.bytesLess [b] [68]||[b]==[68])=decide (b.toNat≤68):=by
 have e:(b=68)↔b.toNat=68:=aCp b 68 (by omega);by_cases h:b=68
 ·subst h;decide
 have h':b.toNat≠68:=fun e'=>h (e.2 e')
 have:([b]==[(68:UInt8)])=false:=by simp [h]
 rw [this,Bool.or_false];simp only [Op.bytesLess,Bool.and_false,Bool.or_false,UInt8.lt_iff_toNat_lt];apply decide_eq_decide.2;show b.toNat<68↔_;omega
def f0(a:Access)(d:Int):Bool:=a.subs.all (fun x=>bI x d)&&(jY a.array&&decide (1≤a.subs.length∧a.subs.length≤2))
theorem aBJ{n:Nat}(hn:5500000≤n){a:Affine}(ha:SmA a)(d:Int):gE n a d=some (!bI a d):=xW hn ha d
theorem pQ{n:Nat}(hn:5500000≤n){a:Access}(ha:vY a.subs)(d:Int):kF n a d=some (f0 a d):=by
 obtain⟨h0,h1⟩:=ha;unfold kF;rw [rZ,mW];have hc:=nG (n:=n) (f:=fun q0=>gE n q0 d) (p:=fun a=> !bI a d) (l:=a.subs) (fun x hx=>aBJ hn (h1 x hx) d) (by omega) (by omega);simp only [jn,Option.bind];rw [hc];unfold f0;have e:(a.subs.any fun a=> !bI a d)= !(a.subs.all fun a=>bI a d):=by
  rw [vAV];simp
 rw [e];cases jY a.array<;>cases decide (1≤a.subs.length∧a.subs.length≤2)<;>simp
theorem pN{n:Nat}(hn:5500000≤n){a:Access}(ha:vY a.subs)(d:Int):jV n a d=some (f0 a d):=by
 obtain⟨h0,h1⟩:=ha;refine Ev.eq ?_;unfold jV;refine jI (l:=a.subs) (p:=fun _ a=>bI a d) (by omega) (by omega) (fun again i x hx hgo hno=>?_) (fun again hall=>?_) (fun⟨i,x,hx,hp⟩=>?_)
 ·have hi:=(bO.1 hx).1;have hm:=h1 x (dB hx);rw [decide_eq_true (show(i:Int)<(a.subs.length:Int) by omega)];refine cY (Ev.jn (fun z=>z= !bI x d) (fun j hj=>aB (aT hx) (aB (gR hn x hm) ?_)) fun z hz=>?_)
  ·cases ha:eG x with
   |false=>exact hj _ (by unfold bI;rw [ha];rfl)
   |true=>exact aB (pZ hn hm) (hj _ (by unfold bI;rw [ha,ltd];simp))
  subst hz;cases hb:bI x d with
  |true=>show Ev (again _) _;rw [aN (by omega)];exact hgo hb
  |false=>exact Ev.some (hno hb)
 ·rw [decide_eq_false (show¬(a.subs.length:Int)<(a.subs.length:Int) by omega)];have e:a.subs.all (fun a=>bI a d)=true:=G9.2 fun c hc=>by obtain⟨i,hi⟩:=vAA hc;exact hall i c hi
  unfold f0;rw [e,W4];refine bF (Ev.jn (fun z=>z=(jY a.array&&decide (1≤a.subs.length∧a.subs.length≤2))) (fun j hj=>?_) fun z hz=>Ev.some hz);by_cases h:a.array.length=1
  ·rw [decide_eq_true (show(a.array.length:Int)=1 by omega)];obtain⟨b,hb⟩:=aGD h;rw [hb] at hj⊢;rw [xJ,xI];show Ev (bif _ then _ else _) _;simp only [jY] at hj⊢;by_cases g1:b.toNat<65
   ·rw [decide_eq_true g1];exact hj _ (by rw [decide_eq_false (show¬(65≤b.toNat∧b.toNat≤68) by omega)];rfl)
   rw [decide_eq_false g1];by_cases g2:b.toNat≤68
   ·rw [decide_eq_true g2];rw [decide_eq_true (show 65≤b.toNat∧b.toNat≤68 by omega)] at hj⊢;refine aL (fun h=>hj _ ?_) fun h=>hj _ ?_
    ·by_cases h2:a.subs.length≤2
     ·rw [decide_eq_true (show(a.subs.length:Int)≤2 by omega),decide_eq_true (by omega)];rfl
     rw [decide_eq_false (show¬(a.subs.length:Int)≤2 by omega),decide_eq_false (by omega)];rfl
    rw [decide_eq_false (by omega)];rfl
   rw [decide_eq_false g2];exact hj _ (by rw [decide_eq_false (show¬(65≤b.toNat∧b.toNat≤68) by omega)];rfl)
  rw [decide_eq_false (show¬(a.array.length:Int)=1 by omega)];exact hj _ (by rw [qE h];rfl)
 unfold f0;rw [U8.2 ⟨x,dB hx,by rw [hp];simp⟩];rfl
def iL(a:Affine):Bool:=decide (a.coefs.length=0)&&decide (a.const=0)
def nF(a:Access):Bool:=decide (a.array=[])&&decide (a.subs.length=0)
theorem aFn(k:Nat):decide ((k:Int)=0)=decide (k=0):=decide_eq_decide.2 (by omega)
theorem zL(n:Nat)(a:Affine):j7 n a=some (iL a):=by unfold j7 iL;rw [aFn];cases decide (a.coefs.length=0)<;>rfl
theorem O8(n:Nat)(a:Affine):lY n a=some (iL a):=by unfold lY iL;rw [aFn];cases decide (a.coefs.length=0)<;>rfl
theorem zM(n:Nat)(a:Access):fV n a=some (nF a):=by unfold fV nF;rw [aFn];cases decide (a.array=[])<;>rfl
theorem H6(n:Nat)(a:Access):jL n a=some (nF a):=by unfold jL nF;rw [aFn];cases decide (a.array=[])<;>rfl
def gA(e:Expr)(d:Int):Bool:=
 if e.kind=2 then decide (e.num=0)&&(nF e.read&&bI e.index d)
 else if e.kind=3 then decide (e.num=0)&&(iL e.index&&f0 e.read d)
 else if e.kind=1 then decide (0≤e.num∧e.num≤99)&&(iL e.index&&nF e.read)
 else decide (e.num=0)&&(iL e.index&&nF e.read)
def eL(k:Int):Int:=if k=1∨k=2∨k=3 then 0 else if k=4∨k=5∨k=6 then 2 else-1
theorem O9(n:Nat)(k:Int):rD n k=some (eL k):=by
 unfold rD eL;by_cases h1:k=1
 ·subst h1;rfl
 by_cases h2:k=2
 ·subst h2;rfl
 by_cases h3:k=3
 ·subst h3;rfl
 by_cases h4:k=4
 ·subst h4;rfl
 by_cases h5:k=5
 ·subst h5;rfl
 by_cases h6:k=6
 ·subst h6;rfl
 simp [jn,h1,h2,h3,h4,h5,h6]
theorem W6{n:Nat}(hn:5500000≤n){e:Expr}(h1:SmA e.index)(h2:vY e.read.subs)(d:Int):v2 n e d=some (gA e d):=by
 unfold v2 gA;rw [H6,O8,gR hn _ h1,pZ hn h1,pN hn h2];by_cases k2:e.kind=2
 ·rw [if_pos k2,decide_eq_true k2];simp only [jn,Option.bind,cond_true,bI];cases decide (e.num=0)<;>cases nF e.read<;>cases eG e.index<;>simp
 rw [if_neg k2,decide_eq_false k2];by_cases k3:e.kind=3
 ·rw [if_pos k3,decide_eq_true k3];simp only [jn,Option.bind,cond_true,cond_false];cases decide (e.num=0)<;>cases iL e.index<;>simp
 rw [if_neg k3,decide_eq_false k3];by_cases k1:e.kind=1
 ·rw [if_pos k1,decide_eq_true k1];simp only [jn,Option.bind,cond_true,cond_false];by_cases g1:0≤e.num<;>by_cases g2:e.num≤99<;>cases iL e.index<;>simp [g1,g2]
 rw [if_neg k1,decide_eq_false k1];simp only [jn,Option.bind,cond_false];cases decide (e.num=0)<;>cases iL e.index<;>simp
end Go.Lift
