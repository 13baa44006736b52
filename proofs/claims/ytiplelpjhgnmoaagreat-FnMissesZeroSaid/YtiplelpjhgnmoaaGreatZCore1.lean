/- Plain facts on sums of products, on ranges, on the points of a nest. -/
import Derived.Test.YtiplelpjhgnmoaaGreatZLawDraw
set_option maxRecDepth 100000
set_option linter.unusedVariables false
namespace Go.Lift
open Go
def U7:List Int→List Int→Int
 |c::cs,x::xs=>c*x+U7 cs xs
 |_,_=>0
def wK(m:Int)(x:Int):Prop:= -m≤x∧x≤m
theorem aCG{a b c x:Int}(ha:0≤a)(hb:0≤b)(h1:wK a c)(h2:wK b x):wK (a*b) (c*x):=by
 obtain⟨p1,p2⟩:=h1
 obtain⟨q1,q2⟩:=h2
 constructor
 ·have h:=Int.mul_nonneg (show 0≤a+c by omega) (show 0≤b+x by omega)
  have k:=Int.mul_nonneg (show 0≤a-c by omega) (show 0≤b-x by omega)
  have e1:(a+c)*(b+x)=a*b+a*x+c*b+c*x:=by rw [Int.add_mul,Int.mul_add,Int.mul_add];omega
  have e2:(a-c)*(b-x)=a*b-a*x-c*b+c*x:=by rw [Int.sub_mul,Int.mul_sub,Int.mul_sub];omega
  rw [e1] at h;rw [e2] at k;omega
 ·have h:=Int.mul_nonneg (show 0≤a+c by omega) (show 0≤b-x by omega)
  have k:=Int.mul_nonneg (show 0≤a-c by omega) (show 0≤b+x by omega)
  have e1:(a+c)*(b-x)=a*b-a*x+c*b-c*x:=by rw [Int.add_mul,Int.mul_sub,Int.mul_sub];omega
  have e2:(a-c)*(b+x)=a*b+a*x-c*b-c*x:=by rw [Int.sub_mul,Int.mul_add,Int.mul_add];omega
  rw [e1] at h;rw [e2] at k;omega
theorem K0(cs:List Int):U7 cs []=0:=by cases cs<;>rfl
theorem Q9: ∀{cs xs:List Int} {c x:Int},cs[xs.length]? =some c→U7 cs (xs++[x])=U7 cs xs+c*x
 | [],xs,c,x,h=>by simp at h
 |d::cs,[],c,x,h=>by simp at h;subst h;simp [U7,K0]
 |d::cs,y::xs,c,x,h=>by
  have h:cs[xs.length]? =some c:=by simpa using h
  simp only [List.cons_append,U7];rw [Q9 h];omega
theorem Q8{cs xs:List Int}{i:Nat}{c x:Int}(hc:cs[i]? =some c)(hx:xs[i]? =some x):U7 cs (xs.take (i+1))=U7 cs (xs.take i)+c*x:=by
 have hi:=(List.getElem?_eq_some_iff.1 hx).1
 rw [List.take_add_one,hx]
 exact Q9 (by simpa [Nat.min_eq_left (Nat.le_of_lt hi)] using hc)
theorem aDw{M:Int}(hM:0≤M): ∀{cs xs:List Int},(∀c∈cs,wK 9 c)→(∀x∈xs,wK M x)→wK (9*M*xs.length) (U7 cs xs)
 | [],xs,_,_=>by
  have:0≤9*M*(xs.length:Int):=Int.mul_nonneg (by omega) (by omega)
  simp only [U7,wK];omega
 |d::cs,[],_,_=>by simp [U7,wK]
 |d::cs,y::xs,hc,hx=>by
  have h1:=aDw hM (cs:=cs) (xs:=xs) (fun c h=>hc c (by simp [h])) (fun x h=>hx x (by simp [h]))
  have h2:=aCG (by omega) hM (hc d (by simp)) (hx y (by simp))
  have e:9*M*((y::xs).length:Int)=9*M*(xs.length:Int)+9*M:=by simp [Int.mul_add]
  rw [e]
  simp only [U7,wK] at*
  omega
def iN(lo hi:Int):List Int:=(List.range (hi-lo).toNat).map (fun(i:Nat)=>lo+(i:Int))
theorem aEs{lo hi v:Int}:v∈iN lo hi↔lo≤v∧v<hi:=by
 simp only [iN,List.mem_map,List.mem_range]
 constructor
 ·rintro⟨i,hi,rfl⟩;omega
 ·intro h;exact⟨(v-lo).toNat,by omega,by omega⟩
theorem fO{lo hi:Int}(h:hi≤lo):iN lo hi=[]:=by
 unfold iN;rw [show(hi-lo).toNat=0 by omega];rfl
theorem lC{lo hi:Int}(h:lo≤hi):iN lo (hi+1)=iN lo hi++[hi]:=by
 unfold iN
 rw [show(hi+1-lo).toNat=(hi-lo).toNat+1 by omega,List.range_succ,List.map_append]
 simp;omega
theorem pV{lo v hi:Int}(h1:lo≤v)(h2:v<hi):iN lo hi=iN lo v++v::iN (v+1) hi:=by
 obtain⟨k,hk⟩: ∃k:Nat,hi=v+1+k:=⟨(hi-v-1).toNat,by omega⟩
 subst hk
 clear h2
 induction k with
 |zero=>
  rw [show v+1+((0:Nat):Int)=v+1 by omega,lC h1,fO (Int.le_refl _)]
 |succ k ih=>
  rw [show v+1+((k+1:Nat):Int)=v+1+(k:Int)+1 by omega,lC (by omega),ih,lC (by omega)]
  simp
theorem wQ{α:Type}{f:α→Option Bool}{p:α→Bool}{l:List α}(hf: ∀x∈l,f x=some (p x)){n:Nat}(hl:l.length<n)(hl2:l.length≤1000000):
  ∃r:Int,aK (fun again2 (x1:Int)=>bif decide (x1<(l.length:Int)) then(Option.bind (ix l x1) fun x3=>Option.bind (f x3) fun x4=>bif x4 then(some x1) else(again2 (wr (x1+1)))) else(some (-1))) n 0=some r∧decide (0≤r)=l.any p:=by
 suffices h:Ev (aK (fun again2 (x1:Int)=>bif decide (x1<(l.length:Int)) then(Option.bind (ix l x1) fun x3=>Option.bind (f x3) fun x4=>bif x4 then(some x1) else(again2 (wr (x1+1)))) else(some (-1))) n 0) (fun r=>decide (0≤r)=l.any p) by exact h
 refine Ev.loop (fun x:Int=>0≤x∧x≤l.length∧(l.take x.toNat).any p=false) (fun x:Int=>l.length-x.toNat) ?_ n 0 ⟨by omega,by omega,by simp⟩ (by simp;omega)
 rintro again x ⟨h0,h1,h2⟩ hr
 refine aG (fun hlt=> ?_) (fun hge=> ?_)
 ·obtain⟨y,hy,hy2⟩:=jH h0 hlt
  have hm:=List.mem_of_getElem? hy2
  refine aA hy (aA (hf y hm) (Ev.cond (fun ht=>Ev.some ?_) (fun hfl=> ?_)))
  ·rw [show l.any p=true from List.any_eq_true.2 ⟨y,hm,ht⟩];simp [h0]
  ·rw [aJ (by omega)]
   refine hr _ ⟨by omega,by omega,?_⟩ (by omega)
   rw [show(x+1).toNat=x.toNat+1 by omega,List.take_add_one,hy2]
   simp [h2,hfl]
 ·refine Ev.some ?_
  have hx:x.toNat=l.length:=by omega
  rw [hx,List.take_length] at h2
  rw [h2];simp
theorem nR{f:Int→Option Bool}{p:Int→Bool}{l:List Int}(hf: ∀x∈l,f x=some (p x)){n:Nat}(hl:l.length<n)(hl2:l.length≤1000000):bI n l f=some (l.any p):=by
 obtain⟨r,h1,h2⟩:=wQ hf hl hl2
 unfold bI gB
 rw [h1,←h2];rfl
theorem oB{f:Affine→Option Bool}{p:Affine→Bool}{l:List Affine}(hf: ∀x∈l,f x=some (p x)){n:Nat}(hl:l.length<n)(hl2:l.length≤1000000):bW n l f=some (l.any p):=by
 obtain⟨r,h1,h2⟩:=wQ hf hl hl2
 unfold bW eJ
 rw [h1,←h2];rfl
theorem A6{f:Stmt→Option Bool}{p:Stmt→Bool}{l:List Stmt}(hf: ∀x∈l,f x=some (p x)){n:Nat}(hl:l.length<n)(hl2:l.length≤1000000):cZ n l f=some (l.any p):=by
 obtain⟨r,h1,h2⟩:=wQ hf hl hl2
 unfold cZ fP
 rw [h1,←h2];rfl
theorem wA{f:Access→Option Bool}{p:Access→Bool}{l:List Access}(hf: ∀x∈l,f x=some (p x)){n:Nat}(hl:l.length<n)(hl2:l.length≤1000000):cJ n l f=some (l.any p):=by
 obtain⟨r,h1,h2⟩:=wQ hf hl hl2
 unfold cJ eK
 rw [h1,←h2];rfl
theorem kH{α:Type}{l:List α}{p:Nat→α→Bool}{Q:Bool→Prop}{body:(Int→Option Bool)→Int→Option Bool}{n:Nat}(hl:l.length<n)(hl2:l.length≤1000000)
  (hstep: ∀again (i:Nat) x,l[i]? =some x→(p i x=true→Ev (again ((i:Int)+1)) Q)→(p i x=false→Q false)→Ev (body again (i:Int)) Q)
  (hend: ∀again,(∀(i:Nat) x,l[i]? =some x→p i x=true)→Ev (body again (l.length:Int)) Q) (hbad:(∃(i:Nat) (x:α),l[i]? =some x∧p i x=false)→Q false):Ev (aK body n 0) Q:=by
 refine Ev.loop (fun x:Int=> ∃i:Nat,x=i∧i≤l.length∧ ∀(j:Nat) y,j<i→l[j]? =some y→p j y=true) (fun x:Int=>l.length-x.toNat) ?_ n 0 ⟨0,rfl,by omega,fun j y h=>by omega⟩ (by simp;omega)
 rintro again x ⟨i,rfl,hi,ha⟩ hr
 by_cases hlt:i<l.length
 ·have hx:=List.getElem?_eq_getElem hlt
  refine hstep again i _ hx (fun hp=>hr _ ⟨i+1,by omega,by omega,fun j y hj hy=> ?_⟩ (by omega)) (fun hp=>hbad ⟨i,_,hx,hp⟩)
  by_cases hji:j=i
  ·subst hji;rw [hx] at hy;cases hy;exact hp
  ·exact ha j y (by omega) hy
 ·have hil:i=l.length:=by omega
  subst hil
  exact hend again (fun j y hy=>ha j y (List.getElem?_eq_some_iff.1 hy).1 hy)
def e9(a:Affine):Bool:=decide (a.coefs.length=4)&&(decide (-99≤a.const∧a.const≤99)&&a.coefs.all (fun c=>decide (-9≤c∧c≤9)))
theorem tQ{a:Affine}(h:e9 a=true):a.coefs.length=4∧wK 99 a.const∧ ∀c∈a.coefs,wK 9 c:=by
 simp only [e9,Bool.and_eq_true,decide_eq_true_eq,List.all_eq_true] at h
 exact⟨h.1,h.2.1,h.2.2⟩
theorem eX(n:Nat)(x a b:Int):cA n x a b=some (decide (a≤x∧x≤b)):=by
 unfold cA
 by_cases h1:a≤x<;>by_cases h2:x≤b<;>simp [jn,h1,h2]
theorem mT{n:Nat}(hn:5000≤n)(a:Affine)(ha:a.coefs.length≤1000):dZ n a=some (e9 a):=by
 have hf: ∀x∈a.coefs,dP n x=some (!decide (-9≤x∧x≤9)):=fun x _=>by unfold dP;rw [eX];rfl
 have hc:=nR (n:=n) hf (by omega) (by omega)
 unfold dZ qB
 rw [eX]
 simp only [jn,Option.bind]
 rw [hc]
 unfold e9
 have e:(a.coefs.any fun x=> !decide (-9≤x∧x≤9))= !(a.coefs.all fun c=>decide (-9≤c∧c≤9)):=by
  rw [List.all_eq_not_any_not];simp
 rw [e]
 by_cases h1:a.coefs.length=4
 ·rw [decide_eq_true (show(a.coefs.length:Int)=4 by omega),decide_eq_true h1]
  generalize decide (-99≤a.const∧a.const≤99)=b
  cases b<;>simp
 ·rw [decide_eq_false (show¬(a.coefs.length:Int)=4 by omega),decide_eq_false h1];rfl
theorem oO(n:Nat)(x m:Int)(hm:0≤m∧m≤1000000000):gF n x m=some (decide (-m≤x∧x≤m)):=by
 unfold gF
 rw [aJ (by omega)]
 by_cases h1: -m≤x<;>by_cases h2:x≤m
 ·simp [jn,h1,h2]
 ·simp [jn,h1,h2]
 ·simp [jn,h1,h2]
 ·simp [jn,h1,h2]
theorem iM{n:Nat}(hn:5000≤n)(a:Affine)(ha:a.coefs.length≤1000):dC n a=some (e9 a):=by
 refine Ev.eq ?_
 unfold dC
 refine kH (l:=a.coefs) (p:=fun _ c=>decide (-9≤c∧c≤9)) (by omega) (by omega) (fun again i x hx hgo hno=> ?_) (fun again hall=> ?_) (fun⟨i,x,hx,hp⟩=> ?_)
 ·rw [decide_eq_true (show(i:Int)<(a.coefs.length:Int) by have:=(List.getElem?_eq_some_iff.1 hx).1;omega)]
  refine aA (aP hx) (aA (oO n x 9 (by omega)) ?_)
  have hi:=(List.getElem?_eq_some_iff.1 hx).1
  cases hp:decide (-9≤x∧x≤9) with
  |true=>show Ev (again _) _;rw [aJ (by omega)];exact hgo hp
  |false=>exact Ev.some (hno hp)
 ·rw [decide_eq_false (show¬(a.coefs.length:Int)<(a.coefs.length:Int) by omega)]
  have e:a.coefs.all (fun c=>decide (-9≤c∧c≤9))=true:=List.all_eq_true.2 (fun c hc=>by obtain⟨i,hi⟩:=List.getElem?_of_mem hc;exact hall i c hi)
  refine Ev.cond (fun h=>(by cases h)) (fun _=> ?_)
  unfold e9
  rw [e]
  refine Ev.jn (fun z:Bool=>z=(decide (a.coefs.length=4)&&(decide (-99≤a.const∧a.const≤99)&&true))) (fun j hj=> ?_) (fun z hz=>Ev.some hz)
  refine aG (fun h=>aA (oO n a.const 99 (by omega)) (hj _ ?_)) (fun h=>hj _ ?_)
  ·rw [decide_eq_true (show a.coefs.length=4 by omega)];simp
  ·rw [decide_eq_false (show¬a.coefs.length=4 by omega)];rfl
 ·unfold e9
  have e:a.coefs.all (fun c=>decide (-9≤c∧c≤9))=false:=List.all_eq_false.2 ⟨x,List.mem_of_getElem? hx,by rw [hp];simp⟩
  rw [e];simp
def eD(a:Affine)(p:List Int):Int:=a.const+U7 a.coefs p
def ptB(M:Int)(p:List Int):Prop:= ∀x∈p,wK M x
theorem qE{a:Affine}(ha:e9 a=true){p:List Int}(hp:p.length≤4){M:Int}(hM:0≤M∧M≤1000000000)(hB:ptB M p)(i:Nat)(hi:i≤p.length):wK 1000000000000 (a.const+U7 a.coefs (p.take i)):=by
 obtain⟨h1,h2,h3⟩:=tQ ha
 have h4:=aDw (M:=M) hM.1 (cs:=a.coefs) (xs:=p.take i) h3 (fun x hx=>hB x (List.mem_of_mem_take hx))
 have h5:(p.take i).length≤4:=by simp;omega
 have h6:9*M*((p.take i).length:Int)≤9*M*4:=Int.mul_le_mul_of_nonneg_left (by omega) (by omega)
 simp only [wK] at*
 omega
theorem aBB{n:Nat}(hn:5000≤n){a:Affine}(ha:e9 a=true){p:List Int}(hp:p.length≤4){M:Int}(hM:0≤M∧M≤1000000000)(hB:ptB M p):bY n a p=some (eD a p):=by
 obtain⟨h1,h2,h3⟩:=tQ ha
 refine Ev.eq ?_
 unfold bY
 refine Ev.loop (fun x:Int×Int=> ∃i:Nat,x.2=i∧i≤p.length∧x.1=a.const+U7 a.coefs (p.take i)) (fun x=>p.length-x.2.toNat) ?_ n _ ⟨0,rfl,by omega,by simp [K0]⟩ (by simp;omega)
 rintro again ⟨x,k⟩ ⟨i,hk,hi,hx⟩ hr
 dsimp only at hk hx⊢
 subst hk
 refine aG (fun hlt=> ?_) (fun hge=>Ev.some ?_)
 ·have hlt:i<p.length:=by omega
  have hp2:=List.getElem?_eq_getElem hlt
  have hc2:=List.getElem?_eq_getElem (show i<a.coefs.length by omega)
  have hd:=Q8 hc2 hp2
  have e1:=qE ha hp hM hB i hi
  have e2:=qE ha hp hM hB (i+1) (by omega)
  rw [hd] at e2
  have e3:=aCG (by omega) hM.1 (h3 _ (List.mem_of_getElem? hc2)) (hB _ (List.mem_of_getElem? hp2))
  refine aA (aP hp2) (aA (aP hc2) ?_)
  simp only [wK] at e1 e2 e3
  rw [aJ (n:=a.coefs[i]*p[i]) (by omega),aJ (by omega),aJ (by omega)]
  refine hr _ ⟨i+1,by dsimp only;omega,by omega,?_⟩ (by dsimp only;omega)
  dsimp only
  rw [hd,hx];omega
 ·have:i=p.length:=by omega
  rw [hx,this,List.take_length];rfl
theorem aBl{n:Nat}(hn:5000≤n){a:Affine}(ha:e9 a=true){p:List Int}(hp:p.length≤4){M:Int}(hM:0≤M∧M≤1000000000)(hB:ptB M p):fB n a p=some (eD a p):=by
 obtain⟨h1,h2,h3⟩:=tQ ha
 refine Ev.eq ?_
 unfold fB
 refine Ev.loop (fun x:Int×Int=> ∃i:Nat,x.2=i∧i≤p.length∧x.1=a.const+U7 a.coefs (p.take i)) (fun x=>p.length-x.2.toNat) ?_ n _ ⟨0,rfl,by omega,by simp [K0]⟩ (by simp;omega)
 rintro again ⟨x,k⟩ ⟨i,hk,hi,hx⟩ hr
 dsimp only at hk hx⊢
 subst hk
 refine Ev.jn (fun z=>z=decide (i<p.length)) (fun j hj=>aG (fun h=>hj _ ?_) (fun h=>hj _ ?_)) (fun z hz=> ?_)
 ·rw [decide_eq_true (show i<p.length by omega),decide_eq_true (show(i:Int)<(a.coefs.length:Int) by omega)]
 ·rw [decide_eq_false (show¬i<p.length by omega)]
 subst hz
 refine aG (fun hlt=> ?_) (fun hge=>Ev.some ?_)
 ·have hp2:=List.getElem?_eq_getElem hlt
  have hc2:=List.getElem?_eq_getElem (show i<a.coefs.length by omega)
  have hd:=Q8 hc2 hp2
  have e1:=qE ha hp hM hB i hi
  have e2:=qE ha hp hM hB (i+1) (by omega)
  rw [hd] at e2
  have e3:=aCG (by omega) hM.1 (h3 _ (List.mem_of_getElem? hc2)) (hB _ (List.mem_of_getElem? hp2))
  refine aA (aP hc2) (aA (aP hp2) ?_)
  simp only [wK] at e1 e2 e3
  rw [aJ (n:=a.coefs[i]*p[i]) (by omega),aJ (by omega),aJ (by omega)]
  refine hr _ ⟨i+1,by dsimp only;omega,by omega,?_⟩ (by dsimp only;omega)
  dsimp only
  rw [hd,hx];omega
 ·have:i=p.length:=by omega
  rw [hx,this,List.take_length];rfl
theorem dE{R:Type}{Q:R→Prop}{A B:Option R}(h:Ev A Q):Ev (bif true then A else B) Q:=h
theorem cG{R:Type}{Q:R→Prop}{A B:Option R}(h:Ev B Q):Ev (bif false then A else B) Q:=h
def fK:List Int→Nat
 | []=>0
 |c::cs=>if fK cs=0 then(if c=0 then 0 else 1) else fK cs+1
theorem vG: ∀(l:List Int) (c:Int),fK (l++[c])=if c=0 then fK l else l.length+1
 | [],c=>by simp [fK]
 |d::l,c=>by
  have ih:=vG l c
  simp only [List.cons_append,fK,ih]
  by_cases hc:c=0
  ·simp [hc]
  ·simp [hc]
theorem vF{l:List Int}{i:Nat}{c:Int}(h:l[i]? =some c):fK (l.take (i+1))=if c=0 then fK (l.take i) else i+1:=by
 have hi:=(List.getElem?_eq_some_iff.1 h).1
 rw [List.take_add_one,h]
 show fK (l.take i++[c])=_
 rw [vG,List.length_take,Nat.min_eq_left (Nat.le_of_lt hi)]
def SmA(a:Affine):Prop:=a.coefs.length≤1000
def wD(l:List Affine):Prop:=l.length≤1000∧ ∀a∈l,SmA a
theorem qY{n:Nat}(hn:5000≤n){a:Affine}(ha:SmA a):iK n a=some (fK a.coefs:Int):=by
 have ha:a.coefs.length≤1000:=ha
 refine Ev.eq ?_
 unfold iK
 refine Ev.loop (fun x:Int×Int=> ∃i:Nat,x.2=i∧i≤a.coefs.length∧x.1=(fK (a.coefs.take i):Int)) (fun x=>a.coefs.length-x.2.toNat) ?_ n _ ⟨0,rfl,by omega,by simp [fK]⟩ (by simp;omega)
 rintro again ⟨x,k⟩ ⟨i,hk,hi,hx⟩ hr
 dsimp only at hk hx⊢
 subst hk
 refine aG (fun hlt=> ?_) (fun hge=>Ev.some ?_)
 ·have hlt:i<a.coefs.length:=by omega
  have hc:=List.getElem?_eq_getElem hlt
  have hd:=vF hc
  refine Ev.jn (fun z:Int=>z=(fK (a.coefs.take (i+1)):Int)) (fun j hj=>aA (aP hc) (l4 (fun h0=>hj _ ?_) (fun h0=>hj _ ?_))) (fun z hz=> ?_)
  ·rw [hd,if_neg h0,aJ (by omega)];omega
  ·rw [hd,if_pos h0,hx]
  ·rw [aJ (by omega)]
   exact hr _ ⟨i+1,by dsimp only;omega,by omega,hz⟩ (by dsimp only;omega)
 ·have:i=a.coefs.length:=by omega
  rw [hx,this,List.take_length]
theorem yO{n:Nat}(hn:5000≤n){a:Affine}(ha:SmA a):dI n a=some (fK a.coefs:Int):=by
 have ha:a.coefs.length≤1000:=ha
 refine Ev.eq ?_
 unfold dI
 refine Ev.loop (fun x:Int=> ∃i:Nat,x=i∧i≤a.coefs.length∧fK a.coefs=fK (a.coefs.take i)) (fun x=>x.toNat) ?_ n _ ⟨a.coefs.length,rfl,by omega,by rw [List.take_length]⟩ (by simp;omega)
 rintro again x ⟨i,rfl,hi,hx⟩ hr
 cases i with
 |zero=>
  refine Ev.jn (fun z=>z=false) (fun j hj=>aG (fun h=>absurd h (by decide)) (fun h=>hj _ rfl)) (fun z hz=> ?_)
  subst hz
  exact Ev.some (by rw [hx];rfl)
 |succ i=>
  have hlt:i<a.coefs.length:=by omega
  have hc:=List.getElem?_eq_getElem hlt
  have hd:=vF hc
  have e:wr (((i+1:Nat):Int)-1)=(i:Int):=by rw [aJ (by omega)];omega
  rw [e]
  refine Ev.jn (fun z=>z=decide (a.coefs[i]=0)) (fun j hj=>aG (fun h=>aA (aP hc) (hj _ rfl)) (fun h=>absurd (show(0:Int)<((i+1:Nat):Int) by omega) h)) (fun z hz=> ?_)
  subst hz
  refine aG (fun h0=> ?_) (fun h0=>Ev.some ?_)
  ·exact hr _ ⟨i,rfl,by omega,by rw [hx,hd,if_pos h0]⟩ (by omega)
  ·rw [hx,hd,if_neg h0]
def bO(a:Affine)(d:Int):Bool:=e9 a&&decide ((fK a.coefs:Int)≤d)
def b7(l:List Affine)(d:Int):Bool:=l.all (fun a=>bO a d)&&decide (1≤l.length∧l.length≤2)
theorem ltd(a b:Int):decide (a<b)= !decide (b≤a):=by
 by_cases h:a<b
 ·rw [decide_eq_true h,decide_eq_false (by omega)];rfl
 ·rw [decide_eq_false h,decide_eq_true (by omega)];rfl
theorem u5{n:Nat}(hn:5000≤n){l:List Affine}(hl:wD l)(d:Int):mI n l d=some (b7 l d):=by
 obtain⟨h0,h1⟩:=hl
 refine Ev.eq ?_
 unfold mI
 refine kH (l:=l) (p:=fun _ a=>bO a d) (by omega) (by omega) (fun again i x hx hgo hno=> ?_) (fun again hall=> ?_) (fun⟨i,x,hx,hp⟩=> ?_)
 ·have hi:=(List.getElem?_eq_some_iff.1 hx).1
  have hm:=h1 x (List.mem_of_getElem? hx)
  rw [decide_eq_true (show(i:Int)<(l.length:Int) by omega)]
  refine dE (Ev.jn (fun z=>z= !bO x d) (fun j hj=>aA (aP hx) (aA (iM hn x hm) ?_)) (fun z hz=> ?_))
  ·cases ha:e9 x with
   |false=>exact hj _ (by unfold bO;rw [ha];rfl)
   |true=>exact aA (qY hn hm) (hj _ (by unfold bO;rw [ha,ltd];simp))
  ·subst hz
   cases hb:bO x d with
   |true=>show Ev (again _) _;rw [aJ (by omega)];exact hgo hb
   |false=>exact Ev.some (hno hb)
 ·rw [decide_eq_false (show¬(l.length:Int)<(l.length:Int) by omega)]
  have e:l.all (fun a=>bO a d)=true:=List.all_eq_true.2 (fun c hc=>by obtain⟨i,hi⟩:=List.getElem?_of_mem hc;exact hall i c hi)
  unfold b7
  rw [e]
  refine cG (Ev.jn (fun z=>z=decide (1≤l.length∧l.length≤2)) (fun j hj=>aG (fun h=>hj _ ?_) (fun h=>hj _ ?_)) (fun z hz=>Ev.some (by rw [hz];rfl)))
  ·by_cases h2:l.length≤2
   ·rw [decide_eq_true (show(l.length:Int)≤2 by omega),decide_eq_true (by omega)]
   ·rw [decide_eq_false (show¬(l.length:Int)≤2 by omega),decide_eq_false (by omega)]
  ·rw [decide_eq_false (by omega)]
 ·unfold b7
  rw [List.all_eq_false.2 ⟨x,List.mem_of_getElem? hx,by rw [hp];simp⟩];rfl
theorem yP{n:Nat}(hn:5000≤n){a:Affine}(ha:SmA a)(d:Int):eM n a d=some (!bO a d):=by
 unfold eM
 rw [mT hn a ha]
 simp only [jn,Option.bind]
 cases hb:e9 a with
 |false=>simp [bO,hb]
 |true=>
  rw [yO hn ha]
  simp only [bO,hb,Bool.not_true,cond_false,Bool.true_and]
  rw [ltd]
theorem nN(n k:Nat):cA n (k:Int) 1 2=some (decide (1≤k∧k≤2)):=by
 rw [eX]
 congr 1
 by_cases h:1≤k∧k≤2
 ·rw [decide_eq_true h,decide_eq_true (by omega)]
 ·rw [decide_eq_false h,decide_eq_false (by omega)]
theorem qO{n:Nat}(hn:5000≤n){l:List Affine}(hl:wD l)(d:Int):iS n l d=some (b7 l d):=by
 obtain⟨h0,h1⟩:=hl
 unfold iS
 rw [nN]
 have hc:=oB (n:=n) (f:=fun q0=>eM n q0 d) (p:=fun a=> !bO a d) (l:=l) (fun x hx=>yP hn (h1 x hx) d) (by omega) (by omega)
 simp only [jn,Option.bind]
 rw [hc]
 unfold b7
 have e:(l.any fun a=> !bO a d)= !(l.all fun a=>bO a d):=by
  rw [List.all_eq_not_any_not];simp
 rw [e]
 cases decide (1≤l.length∧l.length≤2)<;>simp
def yM{α:Type}(p:Nat→α→Bool)(l:List α):Bool:=l.zipIdx.all fun q=>p q.2 q.1
theorem lV{α:Type}{p:Nat→α→Bool}{l:List α}(h: ∀(i:Nat) x,l[i]? =some x→p i x=true):yM p l=true:=
 List.all_eq_true.2 (fun q hq=>h q.2 q.1 (List.mem_zipIdx_iff_getElem?.1 hq))
theorem jY{α:Type}{p:Nat→α→Bool}{l:List α}{i:Nat}{x:α}(h:l[i]? =some x)(hp:p i x=false):yM p l=false:=
 List.all_eq_false.2 ⟨(x,i),List.mem_zipIdx_iff_getElem?.2 h,by rw [hp];simp⟩
theorem yL{α:Type}{p:Nat→α→Bool}{l:List α}(h:yM p l=true){i:Nat}{x:α}(hx:l[i]? =some x):p i x=true:=
 List.all_eq_true.1 h (x,i) (List.mem_zipIdx_iff_getElem?.2 hx)
def gZ(nest:List Loop):Bool:=yM (fun i l=>b7 l.lo (i:Int)&&b7 l.hi (i:Int)) nest&&decide (nest.length≤4)
def SmN(nest:List Loop):Prop:=nest.length≤1000∧ ∀l∈nest,wD l.lo∧wD l.hi
theorem yR{n:Nat}(hn:5000≤n){nest:List Loop}(h:SmN nest):jJ n nest=some (gZ nest):=by
 obtain⟨h0,h1⟩:=h
 refine Ev.eq ?_
 unfold jJ
 refine kH (l:=nest) (p:=fun i l=>b7 l.lo (i:Int)&&b7 l.hi (i:Int)) (by omega) (by omega) (fun again i x hx hgo hno=> ?_) (fun again hall=> ?_) (fun⟨i,x,hx,hp⟩=> ?_)
 ·have hi:=(List.getElem?_eq_some_iff.1 hx).1
  obtain⟨m1,m2⟩:=h1 x (List.mem_of_getElem? hx)
  rw [decide_eq_true (show(i:Int)<(nest.length:Int) by omega)]
  refine aA (aP hx) (Ev.jn (fun z=>z= !(b7 x.lo (i:Int)&&b7 x.hi (i:Int))) (fun j hj=>aA (qO hn m1 _) ?_) (fun z hz=> ?_))
  ·cases ha:b7 x.lo (i:Int) with
   |false=>exact hj _ (by rw [ha];rfl)
   |true=>exact aA (qO hn m2 _) (hj _ (by rw [ha];rfl))
  ·subst hz
   cases hb:(b7 x.lo (i:Int)&&b7 x.hi (i:Int)) with
   |true=>show Ev (again _) _;rw [aJ (by omega)];exact hgo hb
   |false=>exact Ev.some (hno hb)
 ·rw [decide_eq_false (show¬(nest.length:Int)<(nest.length:Int) by omega)]
  refine Ev.some ?_
  unfold gZ
  rw [lV hall,Bool.true_and]
  exact decide_eq_decide.2 (by omega)
 ·unfold gZ;rw [jY hx hp];rfl
theorem xF{n:Nat}(hn:5000≤n){nest:List Loop}(h:SmN nest):jF n nest=some (gZ nest):=by
 obtain⟨h0,h1⟩:=h
 unfold jF
 by_cases h4:nest.length≤4
 ·rw [decide_eq_true (show(nest.length:Int)≤4 by omega)]
  refine Ev.eq ?_
  refine kH (l:=nest) (p:=fun i l=>b7 l.lo (i:Int)&&b7 l.hi (i:Int)) (by omega) (by omega) (fun again i x hx hgo hno=> ?_) (fun again hall=> ?_) (fun⟨i,x,hx,hp⟩=> ?_)
  ·have hi:=(List.getElem?_eq_some_iff.1 hx).1
   obtain⟨m1,m2⟩:=h1 x (List.mem_of_getElem? hx)
   rw [decide_eq_true (show(i:Int)<(nest.length:Int) by omega)]
   refine Ev.jn (fun z=>z=true) (fun j hj=>dE (hj _ rfl)) (fun z hz=> ?_)
   subst hz
   refine dE (Ev.jn (fun z=>z= !(b7 x.lo (i:Int)&&b7 x.hi (i:Int))) (fun j hj=>aA (aP hx) (aA (u5 hn m1 _) ?_)) (fun z hz=> ?_))
   ·cases ha:b7 x.lo (i:Int) with
    |false=>exact hj _ (by rw [ha];rfl)
    |true=>exact aA (u5 hn m2 _) (hj _ (by rw [ha];rfl))
   ·subst hz
    cases hb:(b7 x.lo (i:Int)&&b7 x.hi (i:Int)) with
    |true=>show Ev (again _) _;rw [aJ (by omega)];exact hgo hb
    |false=>exact Ev.some (hno hb)
  ·rw [decide_eq_false (show¬(nest.length:Int)<(nest.length:Int) by omega)]
   refine Ev.jn (fun z=>z=false) (fun j hj=>cG (hj _ rfl)) (fun z hz=> ?_)
   subst hz
   refine Ev.some ?_
   unfold gZ
   rw [lV hall,decide_eq_true h4];rfl
  ·unfold gZ;rw [jY hx hp];rfl
 ·obtain⟨k,rfl⟩: ∃k,n=k+1:=⟨n-1,by omega⟩
  rw [decide_eq_false (show¬(nest.length:Int)≤4 by omega)]
  unfold gZ
  rw [decide_eq_false h4,Bool.and_false]
  simp only [aK,jn]
  cases decide ((0:Int)<(nest.length:Int))<;>rfl
def mx:List Int→Int
 | []=>0
 |x::xs=>xs.foldl max x
def mn:List Int→Int
 | []=>0
 |x::xs=>xs.foldl min x
theorem aEB{l:List Int}(h:l≠[])(x:Int):mx (l++[x])=max (mx l) x:=by
 cases l with
 |nil=>exact absurd rfl h
 |cons a l=>simp [mx,List.foldl_append]
theorem aED{l:List Int}(h:l≠[])(x:Int):mn (l++[x])=min (mn l) x:=by
 cases l with
 |nil=>exact absurd rfl h
 |cons a l=>simp [mn,List.foldl_append]
theorem aE8: ∀(l:List Int) (a:Int),a≤l.foldl max a
 | [],a=>Int.le_refl _
 |x::l,a=>Int.le_trans (Int.le_max_left a x) (aE8 l (max a x))
theorem aE9: ∀(l:List Int) (a:Int),l.foldl min a≤a
 | [],a=>Int.le_refl _
 |x::l,a=>Int.le_trans (aE9 l (min a x)) (Int.min_le_left a x)
def evs(l:List Affine)(p:List Int):List Int:=l.map (fun a=>eD a p)
def iQ(l:Loop)(p:List Int):Int:=mx (evs l.lo p)
def nB(l:Loop)(p:List Int):Int:=mn (evs l.hi p)
def mC(k:Nat)(p:List Int):Prop:=p.length=k∧k≤4∧ptB (100*40^k) p
theorem xP{k:Nat}(h:k≤4):(0:Int)≤100*40^k∧(100:Int)*40^k≤1000000000:=by
 match k,h with
 |0,_=>decide
 |1,_=>decide
 |2,_=>decide
 |3,_=>decide
 |4,_=>decide
theorem tV{l:List Affine}{d:Int}(h:b7 l d=true):1≤l.length∧l.length≤2∧ ∀a∈l,e9 a=true:=by
 simp only [b7,Bool.and_eq_true,decide_eq_true_eq,List.all_eq_true] at h
 refine⟨h.2.1,h.2.2,fun a ha=> ?_⟩
 have:=h.1 a ha
 simp only [bO,Bool.and_eq_true] at this
 exact this.1
theorem aCZ{a:Affine}(ha:e9 a=true){k:Nat}{p:List Int}(hp:mC k p)(hk:k≤3): -(40*(100*40^k))≤eD a p∧eD a p≤40*(100*40^k):=by
 obtain⟨h1,h2,h3⟩:=tQ ha
 obtain⟨p1,p2,p3⟩:=hp
 obtain⟨q1,q2⟩:=xP (k:=k) (by omega)
 have hq:(100:Int)≤100*40^k:=by
  match k,hk with
  |0,_=>decide
  |1,_=>decide
  |2,_=>decide
  |3,_=>decide
 generalize (100*40^k:Int)=M at*
 have h4:=aDw (M:=M) q1 (cs:=a.coefs) (xs:=p) h3 (fun x hx=>p3 x hx)
 have h6:9*M*(p.length:Int)≤9*M*3:=Int.mul_le_mul_of_nonneg_left (by omega) (by omega)
 simp only [wK] at*
 unfold eD
 omega
theorem aCr{n:Nat}(hn:5000≤n){a:Affine}(ha:e9 a=true){k:Nat}{p:List Int}(hp:mC k p):fB n a p=some (eD a p):=
 aBl hn ha (by have:=hp.1;have:=hp.2.1;omega) (xP hp.2.1) hp.2.2
theorem aCR{n:Nat}(hn:5000≤n){a:Affine}(ha:e9 a=true){k:Nat}{p:List Int}(hp:mC k p):bY n a p=some (eD a p):=
 aBB hn ha (by have:=hp.1;have:=hp.2.1;omega) (xP hp.2.1) hp.2.2
theorem i8{l:List Affine}{p:List Int}{i:Nat}{a:Affine}(h:l[i]? =some a):(evs l p)[i]? =some (eD a p):=by
 unfold evs;rw [List.getElem?_map,h];rfl
theorem wN(l:List Affine)(p:List Int):(evs l p).length=l.length:=List.length_map ..
theorem aAK{α:Type}{l:List α}{i:Nat}(h:1≤i)(hl:1≤l.length):l.take i≠[]:=by
 intro e
 have:(l.take i).length=0:=by rw [e];rfl
 rw [List.length_take] at this;omega
theorem aAR{l:List Int}{i:Nat}{x:Int}(h:l[i]? =some x)(hi:1≤i):mx (l.take (i+1))=max (mx (l.take i)) x:=by
 have:=(List.getElem?_eq_some_iff.1 h).1
 rw [List.take_add_one,h]
 exact aEB (aAK hi (by omega)) x
theorem aAT{l:List Int}{i:Nat}{x:Int}(h:l[i]? =some x)(hi:1≤i):mn (l.take (i+1))=min (mn (l.take i)) x:=by
 have:=(List.getElem?_eq_some_iff.1 h).1
 rw [List.take_add_one,h]
 exact aED (aAK hi (by omega)) x
theorem X4{l:List Int}{x:Int}(h:l[0]? =some x):mx (l.take 1)=x:=by
 cases l with
 |nil=>simp at h
 |cons a l=>simp at h;subst h;rfl
theorem X5{l:List Int}{x:Int}(h:l[0]? =some x):mn (l.take 1)=x:=by
 cases l with
 |nil=>simp at h
 |cons a l=>simp at h;subst h;rfl
theorem w9{n:Nat}(hn:5000≤n){l:Loop}{d d':Int}(h1:b7 l.lo d=true)(h2:b7 l.hi d'=true){k:Nat}{p:List Int}(hp:mC k p):kK n l p=some (iQ l p,nB l p):=by
 obtain⟨a1,a2,a3⟩:=tV h1
 obtain⟨b1,b2,b3⟩:=tV h2
 have g1:=List.getElem?_eq_getElem (show 0<l.lo.length by omega)
 have g2:=List.getElem?_eq_getElem (show 0<l.hi.length by omega)
 refine Ev.eq ?_
 unfold kK
 refine aA (aP (i:=0) g1) (aA (aCr hn (a3 _ (List.mem_of_getElem? g1)) hp) (aA (aP (i:=0) g2) (aA (aCr hn (b3 _ (List.mem_of_getElem? g2)) hp) ?_)))
 refine Ev.loop (fun x:Int×Int=> ∃i:Nat,x.2=i∧1≤i∧i≤l.lo.length∧x.1=mx ((evs l.lo p).take i)) (fun x=>l.lo.length-x.2.toNat) ?_ n _ ⟨1,rfl,by omega,by omega,(X4 (i8 g1)).symm⟩ (by dsimp only;omega)
 rintro again ⟨x,z⟩ ⟨i,hz,hi1,hi,hx⟩ hr
 dsimp only at hz hx⊢
 subst hz
 refine aG (fun hlt=> ?_) (fun hge=> ?_)
 ·have g:=List.getElem?_eq_getElem (show i<l.lo.length by omega)
  have e:=aAR (i8 (p:=p) g) hi1
  refine Ev.jn (fun z=>z=mx ((evs l.lo p).take (i+1))) (fun j hj=>aA (aP g) (aA (aCr hn (a3 _ (List.mem_of_getElem? g)) hp) (aG (fun h=>hj _ ?_) (fun h=>hj _ ?_)))) (fun z hz=> ?_)
  ·rw [e,←hx];omega
  ·rw [e,←hx];omega
  ·rw [aJ (by omega)]
   exact hr _ ⟨i+1,by dsimp only;omega,by omega,by omega,hz⟩ (by dsimp only;omega)
 ·have hie:i=l.lo.length:=by omega
  have hx':x=iQ l p:=by rw [hx,hie,←wN l.lo p,List.take_length];rfl
  refine Ev.loop (fun x:Int×Int=> ∃i:Nat,x.2=i∧1≤i∧i≤l.hi.length∧x.1=mn ((evs l.hi p).take i)) (fun x=>l.hi.length-x.2.toNat) ?_ n _ ⟨1,rfl,by omega,by omega,(X5 (i8 g2)).symm⟩ (by dsimp only;omega)
  rintro again2 ⟨y,z⟩ ⟨i,hz,hi1,hi,hy⟩ hr2
  dsimp only at hz hy⊢
  subst hz
  refine aG (fun hlt=> ?_) (fun hge=>Ev.some ?_)
  ·have g:=List.getElem?_eq_getElem (show i<l.hi.length by omega)
   have e:=aAT (i8 (p:=p) g) hi1
   refine Ev.jn (fun z=>z=mn ((evs l.hi p).take (i+1))) (fun j hj=>aA (aP g) (aA (aCr hn (b3 _ (List.mem_of_getElem? g)) hp) (aG (fun h=>hj _ ?_) (fun h=>hj _ ?_)))) (fun z hz=> ?_)
   ·rw [e,←hy];omega
   ·rw [e,←hy];omega
   ·rw [aJ (by omega)]
    exact hr2 _ ⟨i+1,by dsimp only;omega,by omega,by omega,hz⟩ (by dsimp only;omega)
  ·have hie:i=l.hi.length:=by omega
   rw [hx',hy,hie,←wN l.hi p,List.take_length];rfl
theorem aBz{n:Nat}(hn:5000≤n){l:Loop}{d d':Int}(h1:b7 l.lo d=true)(h2:b7 l.hi d'=true){k:Nat}{p:List Int}(hp:mC k p):jK n l p=some (iQ l p,nB l p):=by
 obtain⟨a1,a2,a3⟩:=tV h1
 obtain⟨b1,b2,b3⟩:=tV h2
 have g1:=List.getElem?_eq_getElem (show 0<l.lo.length by omega)
 have g2:=List.getElem?_eq_getElem (show 0<l.hi.length by omega)
 refine Ev.eq ?_
 unfold jK
 refine aA (aP (i:=0) g1) (aA (aCR hn (a3 _ (List.mem_of_getElem? g1)) hp) (aA (aP (i:=0) g2) (aA (aCR hn (b3 _ (List.mem_of_getElem? g2)) hp) ?_)))
 refine Ev.loop (fun x:Int×Int=> ∃i:Nat,x.2=i∧i≤l.lo.length∧x.1=mx ((evs l.lo p).take (max i 1))) (fun x=>l.lo.length-x.2.toNat) ?_ n _ ⟨0,rfl,by omega,(X4 (i8 g1)).symm⟩ (by dsimp only;omega)
 rintro again ⟨x,z⟩ ⟨i,hz,hi,hx⟩ hr
 dsimp only at hz hx⊢
 subst hz
 refine aG (fun hlt=> ?_) (fun hge=> ?_)
 ·have g:=List.getElem?_eq_getElem (show i<l.lo.length by omega)
  refine aA (aP g) (aA (aCR hn (a3 _ (List.mem_of_getElem? g)) hp) ?_)
  rw [aJ (by omega)]
  refine hr _ ⟨i+1,by dsimp only;omega,by omega,?_⟩ (by dsimp only;omega)
  dsimp only
  rw [show max (i+1) 1=i+1 by omega]
  cases i with
  |zero=>rw [hx,show max 0 1=1 by rfl,Nat.zero_add,X4 (i8 g)];omega
  |succ i=>rw [aAR (i8 (p:=p) g) (by omega),hx,show max (i+1) 1=i+1 by omega]
 ·have hie:i=l.lo.length:=by omega
  have hx':x=iQ l p:=by rw [hx,hie,Nat.max_eq_left (by omega),←wN l.lo p,List.take_length];rfl
  refine Ev.loop (fun x:Int×Int=> ∃i:Nat,x.2=i∧i≤l.hi.length∧x.1=mn ((evs l.hi p).take (max i 1))) (fun x=>l.hi.length-x.2.toNat) ?_ n _ ⟨0,rfl,by omega,(X5 (i8 g2)).symm⟩ (by dsimp only;omega)
  rintro again2 ⟨y,z⟩ ⟨i,hz,hi,hy⟩ hr2
  dsimp only at hz hy⊢
  subst hz
  refine aG (fun hlt=> ?_) (fun hge=>Ev.some ?_)
  ·have g:=List.getElem?_eq_getElem (show i<l.hi.length by omega)
   refine aA (aP g) (aA (aCR hn (b3 _ (List.mem_of_getElem? g)) hp) ?_)
   rw [aJ (by omega)]
   refine hr2 _ ⟨i+1,by dsimp only;omega,by omega,?_⟩ (by dsimp only;omega)
   dsimp only
   rw [show max (i+1) 1=i+1 by omega]
   cases i with
   |zero=>rw [hy,show max 0 1=1 by rfl,Nat.zero_add,X5 (i8 g)];omega
   |succ i=>rw [aAT (i8 (p:=p) g) (by omega),hy,show max (i+1) 1=i+1 by omega]
  ·have hie:i=l.hi.length:=by omega
   rw [hx',hy,hie,Nat.max_eq_left (by omega),←wN l.hi p,List.take_length];rfl
theorem wH{l:Loop}{d d':Int}(h1:b7 l.lo d=true)(h2:b7 l.hi d'=true){k:Nat}{p:List Int}(hp:mC k p)(hk:k≤3){v:Int}(hv:iQ l p≤v∧v<nB l p):mC (k+1) (p++[v]):=by
 obtain⟨a1,a2,a3⟩:=tV h1
 obtain⟨b1,b2,b3⟩:=tV h2
 have e1: -(40*(100*40^k))≤iQ l p:=by
  cases hl:l.lo with
  |nil=>rw [hl] at a1;simp at a1
  |cons a as=>
   have:=(aCZ (a3 a (by rw [hl];simp)) hp hk).1
   unfold iQ evs;rw [hl]
   exact Int.le_trans this (aE8 _ _)
 have e2:nB l p≤40*(100*40^k):=by
  cases hl:l.hi with
  |nil=>rw [hl] at b1;simp at b1
  |cons a as=>
   have:=(aCZ (b3 a (by rw [hl];simp)) hp hk).2
   unfold nB evs;rw [hl]
   exact Int.le_trans (aE9 _ _) this
 obtain⟨p1,p2,p3⟩:=hp
 have e3:(100*40^(k+1):Int)=40*(100*40^k):=by rw [Int.pow_succ];omega
 have q:=(xP (k:=k) (by omega)).1
 refine⟨by simp [p1],by omega,fun x hx=> ?_⟩
 rw [e3]
 rcases List.mem_append.1 hx with h|h
 ·have:=p3 x h
  simp only [wK] at this⊢
  omega
 ·simp at h;subst h
  simp only [wK]
  omega
def pts:List Loop→List Int→List (List Int)
 | [],p=>[p]
 |l::ls,p=>(iN (iQ l p) (nB l p)).flatMap (fun v=>pts ls (p++[v]))
def wk:List Loop→List Int→Int
 | [],_=>1
 |l::ls,p=>1+((iN (iQ l p) (nB l p)).map (fun v=>wk ls (p++[v]))).sum
theorem kT{α:Type}(f:α→Int): ∀(l:List α),(∀x∈l,1≤f x)→(l.length:Int)≤(l.map f).sum
 | [],_=>by simp
 |x::l,h=>by
  have h1:=kT f l (fun y hy=>h y (by simp [hy]))
  have h2:=h x (by simp)
  simp only [List.map_cons,List.sum_cons,List.length_cons];omega
theorem G7: ∀(ls:List Loop) (p:List Int),1≤wk ls p
 | [],p=>Int.le_refl _
 |l::ls,p=>by
  have:=kT (fun v=>wk ls (p++[v])) (iN (iQ l p) (nB l p)) (fun v _=>G7 ls _)
  simp only [wk];omega
def Fit(nest:List Loop):Prop:=nest.length≤4∧ ∀(i:Nat) l,nest[i]? =some l→b7 l.lo (i:Int)=true∧b7 l.hi (i:Int)=true
theorem I9{nest:List Loop}(h:gZ nest=true):Fit nest:=by
 simp only [gZ,Bool.and_eq_true,decide_eq_true_eq] at h
 refine⟨h.2,fun i l hl=> ?_⟩
 have:=yL h.1 hl
 simpa [Bool.and_eq_true] using this
theorem qF{nest:List Loop}{k:Nat}{l:Loop}{ls:List Loop}(h:nest.drop k=l::ls):nest[k]? =some l∧nest.drop (k+1)=ls∧k<nest.length:=by
 have h1:(nest.drop k)[0]? =some l:=by rw [h];rfl
 rw [List.getElem?_drop,Nat.add_zero] at h1
 refine⟨h1,?_,(List.getElem?_eq_some_iff.1 h1).1⟩
 have:(nest.drop k).drop 1=ls:=by rw [h];rfl
 rwa [List.drop_drop] at this
theorem s8{nest:List Loop}{k:Nat}(h:nest.drop k=[])(hk:k≤nest.length):k=nest.length:=by
 have:(nest.drop k).length=0:=by rw [h];rfl
 rw [List.length_drop] at this;omega
theorem eI(p:List Int)(h:p.length≤1000):app [] p=some p:=by rw [bL (by simp;omega)];rfl
theorem N8(l:List Int)(f:Int→Int)(v:Int):((l++[v]).map f).sum=(l.map f).sum+f v:=by simp
theorem aEt{lo v:Int}(h:lo≤v):((iN lo v).length:Int)=v-lo:=by unfold iN;simp;omega
theorem B8{nest:List Loop}(hf:Fit nest): ∀(ls:List Loop) (n k:Nat) (p:List Int) (most:Int),5000+ls.length≤n→nest.drop k=ls→k≤nest.length→mC k p→0≤most→most≤1200→
  Ev (s_l2Work n nest p most) (fun r=>(wk ls p≤most→r=wk ls p)∧(most<wk ls p→most<r)∧1≤r∧r≤most+1)
 | [],n,k,p,most,hn,hd,hk,hp,h0,h1=>by
  obtain⟨n,rfl⟩: ∃j,n=j+1:=⟨n-1,by omega⟩
  have hk':=s8 hd hk
  have hpl:=hp.1
  unfold s_l2Work
  rw [decide_eq_true (show(p.length:Int)=(nest.length:Int) by omega)]
  exact Ev.some ⟨fun _=>rfl,fun h=>by simp only [wk] at h;omega,by omega,by omega⟩
 |l::ls,n,k,p,most,hn,hd,hk,hp,h0,h1=>by
  obtain⟨n,rfl⟩: ∃j,n=j+1:=⟨n-1,by omega⟩
  obtain⟨d1,d2,d3⟩:=qF hd
  obtain⟨s1,s2⟩:=hf.2 k l d1
  have hpl:=hp.1
  have hk3:k≤3:=by have:=hf.1;omega
  simp only [List.length_cons] at hn
  unfold s_l2Work
  rw [decide_eq_false (show¬(p.length:Int)=(nest.length:Int) by omega)]
  refine cG (aA (x:=l) (by rw [hpl];exact aP d1) (aA (w9 (by omega) s1 s2 hp) ?_))
  let f:Int→Int:=fun v=>wk ls (p++[v])
  have hfp: ∀v,1≤f v:=fun v=>G7 _ _
  have hW:wk (l::ls) p=1+((iN (iQ l p) (nB l p)).map f).sum:=rfl
  refine Ev.loop (fun x:Int×Int=>iQ l p≤x.2∧(x.2≤nB l p∨x.2=iQ l p)∧(1+((iN (iQ l p) x.2).map f).sum≤most→x.1=1+((iN (iQ l p) x.2).map f).sum)∧(most<1+((iN (iQ l p) x.2).map f).sum→most<x.1)∧1≤x.1∧x.1≤most+1)
   (fun x=>(most+1-x.1).toNat) ?_ n _ ⟨Int.le_refl _,.inr rfl,fun _=>by rw [fO (Int.le_refl _)];rfl,fun h=>by rw [fO (Int.le_refl _)] at h;simp at h;dsimp only;omega,by dsimp only;omega,by dsimp only;omega⟩ (by dsimp only;omega)
  rintro again ⟨x,v⟩ ⟨i1,i2,i3,i4,i5,i6⟩ hr
  dsimp only at i1 i2 i3 i4 i5 i6⊢
  refine Ev.jn (fun z=>z=decide (v<nB l p∧x≤most)) (fun j hj=>aG (fun h=>hj _ ?_) (fun h=>hj _ ?_)) (fun z hz=> ?_)
  ·by_cases hx:x≤most
   ·rw [decide_eq_true hx,decide_eq_true ⟨h,hx⟩]
   ·rw [decide_eq_false hx,decide_eq_false (fun h=>hx h.2)]
  ·rw [decide_eq_false (fun h'=>h h'.1)]
  subst hz
  refine aG (fun⟨hv,hx⟩=> ?_) (fun hno=>Ev.some ?_)
  ·have hsum:x=1+((iN (iQ l p) v).map f).sum:=i3 (by apply Int.not_lt.1;intro h;have:=i4 h;omega)
   have hp':=wH s1 s2 hp hk3 ⟨i1,hv⟩
   have e1:wr (most-x)=most-x:=by rw [aJ (by omega)]
   rw [e1]
   refine aA (eI p (by omega)) (aA (bL (by simp;omega)) (aH (B8 hf ls n (k+1) (p++[v]) (most-x) (by omega) d2 (by omega) hp' (by omega) (by omega)) (fun r ⟨r1,r2,r3,r4⟩=> ?_)))
   have hvb:v<nB l p:=hv
   have hvr: -1000000000≤v∧v≤1000000000:=by
    have h9:=hp'.2.2 v (by simp)
    have h8:=xP hp'.2.1
    simp only [wK] at h9;omega
   rw [aJ (n:=v+1) (by omega),aJ (n:=x+r) (by omega)]
   have hs:1+((iN (iQ l p) (v+1)).map f).sum=x+f v:=by rw [lC i1,N8,hsum];omega
   refine hr _ ⟨by dsimp only;omega,.inl (by dsimp only;omega),?_,?_,by dsimp only;omega,by dsimp only;omega⟩ (by dsimp only;omega)
   ·dsimp only;rw [hs];intro h
    have:r=f v:=r1 (show f v≤most-x by omega)
    omega
   ·dsimp only;rw [hs];intro h
    have:most-x<r:=r2 (show most-x<f v by omega)
    omega
  ·have hmono:1+((iN (iQ l p) v).map f).sum≤wk (l::ls) p∧(nB l p≤v→1+((iN (iQ l p) v).map f).sum=wk (l::ls) p):=by
    rw [hW]
    by_cases h:v<nB l p
    ·refine⟨?_,fun h'=>by omega⟩
     rw [pV i1 h,List.map_append,List.sum_append,List.map_cons,List.sum_cons]
     have:=kT f (iN (v+1) (nB l p)) (fun y _=>hfp y)
     have:=hfp v
     omega
    ·have:iN (iQ l p) v=iN (iQ l p) (nB l p):=by
      rcases i2 with h2|h2
      ·rw [show v=nB l p by omega]
      ·subst h2;rw [fO (Int.le_refl _),fO (by omega)]
     rw [this];exact⟨Int.le_refl _,fun _=>rfl⟩
   refine⟨fun h=> ?_,fun h=> ?_,i5,i6⟩
   ·have hx:=i3 (by omega)
    rw [hx]
    apply hmono.2
    apply Int.not_lt.1
    intro hv;exact hno ⟨hv,by omega⟩
   ·apply Int.not_le.1
    intro hx
    have hv:nB l p≤v:=by apply Int.not_lt.1;intro hv;exact hno ⟨hv,hx⟩
    have:=i4 (by rw [hmono.2 hv];exact h)
    omega
theorem oP{nest:List Loop}(hf:Fit nest): ∀(ls:List Loop) (n k:Nat) (p:List Int) (out:List (List Int)),5000+ls.length≤n→nest.drop k=ls→k≤nest.length→mC k p→wk ls p≤1200→out.length≤120→
  Ev (s_l2Points n out nest p) (fun r=>(out.length+(pts ls p).length≤120→r=out++pts ls p)∧(120<out.length+(pts ls p).length→120<r.length))
 | [],n,k,p,out,hn,hd,hk,hp,h0,h1=>by
  obtain⟨n,rfl⟩: ∃j,n=j+1:=⟨n-1,by omega⟩
  have hk':=s8 hd hk
  have hpl:=hp.1
  have hf1:=hf.1
  unfold s_l2Points
  rw [decide_eq_true (show(p.length:Int)=(nest.length:Int) by omega)]
  refine dE (aA (eI p (by omega)) (aA (bL (by simp;omega)) (Ev.some ⟨fun _=>rfl,fun h=>by simp [pts] at h ⊢; omega⟩)))
 |l::ls,n,k,p,out,hn,hd,hk,hp,h0,h1=>by
  obtain⟨n,rfl⟩: ∃j,n=j+1:=⟨n-1,by omega⟩
  obtain⟨d1,d2,d3⟩:=qF hd
  obtain⟨s1,s2⟩:=hf.2 k l d1
  have hpl:=hp.1
  have hf1:=hf.1
  have hk3:k≤3:=by omega
  simp only [List.length_cons] at hn
  unfold s_l2Points
  rw [decide_eq_false (show¬(p.length:Int)=(nest.length:Int) by omega)]
  refine cG (aA (x:=l) (by rw [hpl];exact aP d1) (aA (w9 (by omega) s1 s2 hp) ?_))
  let f:Int→Int:=fun v=>wk ls (p++[v])
  have hfp: ∀v,1≤f v:=fun v=>G7 _ _
  have hW:wk (l::ls) p=1+((iN (iQ l p) (nB l p)).map f).sum:=rfl
  let g:Int→List (List Int):=fun v=>pts ls (p++[v])
  have hP:pts (l::ls) p=(iN (iQ l p) (nB l p)).flatMap g:=rfl
  have hlen:iQ l p≤nB l p→nB l p-iQ l p≤1199:=fun hle=>by
   have:=kT f (iN (iQ l p) (nB l p)) (fun y _=>hfp y)
   have:=aEt hle
   omega
  refine Ev.loop (fun x:List (List Int)×Int=>iQ l p≤x.2∧(x.2≤nB l p∨x.2=iQ l p)∧(out.length+((iN (iQ l p) x.2).flatMap g).length≤120→x.1=out++(iN (iQ l p) x.2).flatMap g)∧(120<out.length+((iN (iQ l p) x.2).flatMap g).length→120<x.1.length))
   (fun x=>(nB l p-x.2).toNat) ?_ n _ ⟨Int.le_refl _,.inr rfl,fun _=>by rw [fO (Int.le_refl _)];simp,fun h=>by rw [fO (Int.le_refl _)] at h;simp at h;omega⟩ (by dsimp only;omega)
  rintro again ⟨x,v⟩ ⟨i1,i2,i3,i4⟩ hr
  dsimp only at i1 i2 i3 i4⊢
  refine Ev.jn (fun z=>z=decide (v<nB l p∧x.length≤120)) (fun j hj=>aG (fun h=>hj _ ?_) (fun h=>hj _ ?_)) (fun z hz=> ?_)
  ·by_cases hx:x.length≤120
   ·rw [decide_eq_true (show(x.length:Int)≤120 by omega),decide_eq_true ⟨h,hx⟩]
   ·rw [decide_eq_false (show¬(x.length:Int)≤120 by omega),decide_eq_false (fun h=>hx h.2)]
  ·rw [decide_eq_false (fun h'=>h h'.1)]
  subst hz
  refine aG (fun⟨hv,hx⟩=> ?_) (fun hno=>Ev.some ?_)
  ·have hxe:x=out++(iN (iQ l p) v).flatMap g:=i3 (by apply Nat.not_lt.1;intro h;have:=i4 h;omega)
   have hp':=wH s1 s2 hp hk3 ⟨i1,hv⟩
   have hwc:f v≤1200:=by
    rw [hW,pV i1 hv,List.map_append,List.sum_append,List.map_cons,List.sum_cons] at h0
    have:=kT f (iN (v+1) (nB l p)) (fun y _=>hfp y)
    have:=kT f (iN (iQ l p) v) (fun y _=>hfp y)
    omega
   refine aA (eI p (by omega)) (aA (bL (by simp;omega)) (aH (oP hf ls n (k+1) (p++[v]) x (by omega) d2 (by omega) hp' hwc hx) (fun r ⟨r1,r2⟩=> ?_)))
   have hvr: -1000000000≤v∧v≤1000000000:=by
    have h9:=hp'.2.2 v (by simp)
    have h8:=xP hp'.2.1
    simp only [wK] at h9;omega
   rw [aJ (n:=v+1) (by omega)]
   have hs:(iN (iQ l p) (v+1)).flatMap g=(iN (iQ l p) v).flatMap g++g v:=by rw [lC i1,List.flatMap_append];simp
   refine hr _ ⟨by dsimp only;omega,.inl (by dsimp only;omega),?_,?_⟩ (by dsimp only;omega)
   ·dsimp only;rw [hs];intro h
    simp only [List.length_append] at h
    have hl:x.length=out.length+((iN (iQ l p) v).flatMap g).length:=by rw [hxe,List.length_append]
    rw [r1 (show x.length+(g v).length≤120 by omega),hxe,List.append_assoc]
   ·dsimp only;rw [hs];intro h
    simp only [List.length_append] at h
    have hl:x.length=out.length+((iN (iQ l p) v).flatMap g).length:=by rw [hxe,List.length_append]
    exact r2 (show 120<x.length+(g v).length by omega)
  ·have hmono:((iN (iQ l p) v).flatMap g).length≤(pts (l::ls) p).length∧(nB l p≤v→(iN (iQ l p) v).flatMap g=pts (l::ls) p):=by
    rw [hP]
    by_cases h:v<nB l p
    ·refine⟨?_,fun h'=>by omega⟩
     rw [pV i1 h,List.flatMap_append,List.length_append]
     omega
    ·have:iN (iQ l p) v=iN (iQ l p) (nB l p):=by
      rcases i2 with h2|h2
      ·rw [show v=nB l p by omega]
      ·subst h2;rw [fO (Int.le_refl _),fO (by omega)]
     rw [this];exact⟨Nat.le_refl _,fun _=>rfl⟩
   refine⟨fun h=> ?_,fun h=> ?_⟩
   ·have hx:=i3 (by omega)
    rw [hx,hmono.2]
    apply Int.not_lt.1
    intro hv;exact hno ⟨hv,by rw [hx,List.length_append];omega⟩
   ·apply Nat.not_le.1
    intro hx
    have hv:nB l p≤v:=by apply Int.not_lt.1;intro hv;exact hno ⟨hv,hx⟩
    have:=i4 (by rw [hmono.2 hv];exact h)
    omega
theorem D5{nest:List Loop}(hf:Fit nest): ∀(ls:List Loop) (n k:Nat) (p:List Int) (st:Int) (out:List (List Int)),5000+ls.length≤n→nest.drop k=ls→k≤nest.length→mC k p→0≤st→st≤1199→out.length≤120→
  Ev (i_walking_walk n ⟨nest,st,out⟩ p) (fun r=>(st+wk ls p≤1200∧out.length+(pts ls p).length≤120→r=(true,⟨nest,st+wk ls p-1,out++pts ls p⟩))∧(¬(st+wk ls p≤1200∧out.length+(pts ls p).length≤120)→r.1=false))
 | [],n,k,p,st,out,hn,hd,hk,hp,h0,h1,h2=>by
  obtain⟨n,rfl⟩: ∃j,n=j+1:=⟨n-1,by omega⟩
  have hk':=s8 hd hk
  have hpl:=hp.1
  have hf1:=hf.1
  unfold i_walking_walk
  dsimp only
  rw [decide_eq_true (show(p.length:Int)=(nest.length:Int) by omega)]
  have hc:m_ownClone p=some p:=by unfold m_ownClone;rw [if_pos (by omega)]
  refine dE (aA hc (aA (bL (by simp;omega)) (Ev.some ⟨fun h=> ?_,fun h=> ?_⟩)))
  ·simp only [wk,pts,List.length_singleton] at h⊢
   rw [decide_eq_true (by simp;omega),show st+1-1=st by omega]
  ·simp only [wk,pts,List.length_singleton] at h⊢
   exact decide_eq_false (by simp;omega)
 |l::ls,n,k,p,st,out,hn,hd,hk,hp,h0,h1,h2=>by
  obtain⟨n,rfl⟩: ∃j,n=j+1:=⟨n-1,by omega⟩
  obtain⟨d1,d2,d3⟩:=qF hd
  obtain⟨s1,s2⟩:=hf.2 k l d1
  have hpl:=hp.1
  have hf1:=hf.1
  have hk3:k≤3:=by omega
  simp only [List.length_cons] at hn
  unfold i_walking_walk
  dsimp only
  rw [decide_eq_false (show¬(p.length:Int)=(nest.length:Int) by omega)]
  refine cG (aA (x:=l) (by rw [hpl];exact aP d1) (aA (aBz (by omega) s1 s2 hp) ?_))
  let f:Int→Int:=fun v=>wk ls (p++[v])
  have hfp: ∀v,1≤f v:=fun v=>G7 _ _
  have hW:wk (l::ls) p=1+((iN (iQ l p) (nB l p)).map f).sum:=rfl
  let g:Int→List (List Int):=fun v=>pts ls (p++[v])
  have hP:pts (l::ls) p=(iN (iQ l p) (nB l p)).flatMap g:=rfl
  refine Ev.loop (fun x:List Loop×Int×List (List Int)×Int=>x.1=nest∧iQ l p≤x.2.2.2∧(x.2.2.2≤nB l p∨x.2.2.2=iQ l p)∧x.2.1=st+((iN (iQ l p) x.2.2.2).map f).sum∧x.2.2.1=out++(iN (iQ l p) x.2.2.2).flatMap g∧0≤x.2.1∧x.2.1≤1199∧x.2.2.1.length≤120)
   (fun x=>(1200-x.2.1).toNat) ?_ n _ ⟨rfl,Int.le_refl _,.inr rfl,by dsimp only;rw [fO (Int.le_refl _)];simp,by dsimp only;rw [fO (Int.le_refl _)];simp,h0,h1,h2⟩ (by dsimp only;omega)
  rintro again ⟨nst,x,o,v⟩ ⟨i0,i1,i2,i3,i4,i5,i6,i7⟩ hr
  dsimp only at i0 i1 i2 i3 i4 i5 i6 i7⊢
  subst i0
  have hol:o.length=out.length+((iN (iQ l p) v).flatMap g).length:=by rw [i4,List.length_append]
  refine aG (fun hv=> ?_) (fun hv=>Ev.some ?_)
  ·have hp':=wH s1 s2 hp hk3 ⟨i1,hv⟩
   have hrest:wk (l::ls) p≥1+((iN (iQ l p) v).map f).sum+f v∧(pts (l::ls) p).length≥((iN (iQ l p) v).flatMap g).length+(g v).length:=by
    rw [hW,hP,pV i1 hv,List.map_append,List.sum_append,List.map_cons,List.sum_cons,List.flatMap_append,List.length_append,List.flatMap_cons,List.length_append]
    have:=kT f (iN (v+1) (nB l p)) (fun y _=>hfp y)
    constructor
    ·omega
    ·omega
   have hvr: -1000000000≤v∧v≤1000000000:=by
    have h9:=hp'.2.2 v (by simp)
    have h8:=xP hp'.2.1
    simp only [wK] at h9;omega
   have e1:wr (x+1)=x+1:=by rw [aJ (by omega)]
   have e2:wr (x+1+1)=x+1+1:=by rw [aJ (by omega)]
   have e3:wr (v+1)=v+1:=by rw [aJ (by omega)]
   rw [e1,e2,e3]
   refine Ev.jn (fun z:List Loop×Int×List (List Int)×Bool=>(z.2.2.2=false→z.1=nst∧x+f v≤1199∧o.length+(g v).length≤120∧z.2.1=x+f v∧z.2.2.1=o++g v)∧(z.2.2.2=true→ ¬(st+wk (l::ls) p≤1200∧out.length+(pts (l::ls) p).length≤120)))
    (fun j hj=>aG (fun h=>hj _ ⟨fun h'=>(by cases h'),fun _=> ?_⟩) (fun h=> ?_)) (fun z hz=> ?_)
   ·have:=hfp v
    omega
   ·have hc:m_ownClone p=some p:=by unfold m_ownClone;rw [if_pos (by omega)]
    refine aA hc (aA (bL (by simp;omega)) (aH (D5 hf ls n (k+1) (p++[v]) (x+1) o (by omega) d2 (by omega) hp' (by omega) (by omega) i7) (fun r ⟨r1,r2⟩=> ?_)))
    by_cases hc:x+1+f v≤1200∧o.length+(g v).length≤120
    ·rw [r1 hc]
     exact hj _ ⟨fun _=>⟨rfl,by omega,hc.2,show x+1+f v-1=x+f v by omega,rfl⟩,fun h=>(by cases h)⟩
    ·have hr1:=r2 hc
     obtain⟨rb,⟨rn,rs,ro⟩⟩:=r
     dsimp only at hr1⊢
     subst hr1
     exact hj _ ⟨fun h=>(by cases h),fun _=>by omega⟩
   ·obtain⟨za,zb,zc,zd⟩:=z
    obtain⟨z2,z3⟩:=hz
    dsimp only at z2 z3⊢
    cases zd with
    |true=>exact Ev.some ⟨fun h=>absurd h (z3 rfl),fun _=>rfl⟩
    |false=>
     obtain⟨rfl,y1,y2,y3,y4⟩:=z2 rfl
     refine hr _ ⟨rfl,by dsimp only;omega,.inl (by dsimp only;omega),?_,?_,by dsimp only;have:=hfp v;omega,by dsimp only;omega,?_⟩ (by dsimp only;have:=hfp v;omega)
     ·dsimp only;rw [lC i1,N8,y3,i3];omega
     ·dsimp only;rw [y4,i4,lC i1,List.flatMap_append];simp
     ·dsimp only;rw [y4,List.length_append];exact y2
  ·have:iN (iQ l p) v=iN (iQ l p) (nB l p):=by
    rcases i2 with h2|h2
    ·rw [show v=nB l p by omega]
    ·subst h2;rw [fO (Int.le_refl _),fO (by omega)]
   rw [this] at i3 i4 hol
   rw [←hP] at i4 hol
   refine⟨fun h=> ?_,fun h=> ?_⟩
   ·rw [i4,i3,hW,show st+(1+((iN (iQ l p) (nB l p)).map f).sum)-1=st+((iN (iQ l p) (nB l p)).map f).sum by omega]
   ·exact absurd ⟨by omega,by omega⟩ h
def NP(nest:List Loop):Option (List (List Int)):=if gZ nest=true∧wk nest []≤1200∧(pts nest []).length≤120 then some (pts nest []) else none
def Z9:Option (List (List Int))→List (List Int)×Bool
 |none=>([],false)
 |some l=>(l,true)
theorem pt0:mC 0 []:=⟨rfl,by omega,fun x h=>by cases h⟩
theorem v8{n:Nat}(hn:6000≤n){nest:List Loop}(h:SmN nest):iA n nest=some (Z9 (NP nest)):=by
 refine Ev.eq ?_
 unfold iA
 refine aA (yR (by omega) h) ?_
 unfold NP
 cases hv:gZ nest with
 |false=>exact Ev.some (by simp [Z9])
 |true=>
  have hf:=I9 hv
  refine aH (D5 hf nest n 0 [] 0 [] (by have:=hf.1;omega) rfl (by omega) pt0 (by omega) (by omega) (by simp)) (fun r ⟨r1,r2⟩=> ?_)
  by_cases hc:(0:Int)+wk nest []≤1200∧([]:List (List Int)).length+(pts nest []).length≤120
  ·rw [r1 hc,if_pos ⟨rfl,by omega,by simpa using hc.2⟩]
   exact Ev.some (by simp [Z9])
  ·rw [r2 hc,if_neg (fun h=>hc ⟨by omega,by simpa using h.2.2⟩)]
   exact Ev.some rfl
theorem vZ{n:Nat}(hn:6000≤n){nest:List Loop}(h:SmN nest):gU n nest=some (Z9 (NP nest)):=by
 refine Ev.eq ?_
 unfold gU
 refine Ev.jn (fun z=>z= !(gZ nest&&decide (wk nest []≤1200))) (fun j hj=>aA (xF (by omega) h) ?_) (fun z hz=> ?_)
 ·cases hv:gZ nest with
  |false=>exact hj _ (by rw [hv];rfl)
  |true=>
   have hf:=I9 hv
   refine aH (B8 hf nest n 0 [] 1200 (by have:=hf.1;omega) rfl (by omega) pt0 (by omega) (by omega)) (fun r ⟨r1,r2,r3,r4⟩=>hj _ ?_)
   rw [hv,Bool.true_and]
   by_cases hw:wk nest []≤1200
   ·rw [decide_eq_true hw,decide_eq_false (by rw [r1 hw];omega)];rfl
   ·rw [decide_eq_false hw,decide_eq_true (r2 (by omega))];rfl
 ·subst hz
  unfold NP
  cases hv:gZ nest with
  |false=>exact Ev.some (by simp [Z9])
  |true=>
   have hf:=I9 hv
   by_cases hw:wk nest []≤1200
   ·rw [decide_eq_true hw]
    refine aH (oP hf nest n 0 [] [] (by have:=hf.1;omega) rfl (by omega) pt0 hw (by simp)) (fun r ⟨r1,r2⟩=> ?_)
    by_cases hl:(pts nest []).length≤120
    ·rw [r1 (by simpa using hl),if_pos ⟨rfl,hw,hl⟩]
     refine aG (fun h=>absurd h (by simp;omega)) (fun _=>Ev.some (by simp [Z9]))
    ·have:=r2 (by simp;omega)
     rw [if_neg (fun h=>hl h.2.2)]
     exact aG (fun _=>Ev.some rfl) (fun h=>absurd h (by omega))
   ·rw [decide_eq_false hw,if_neg (fun h=>hw h.2.1)]
    exact Ev.some rfl
def lD(s:List UInt8):Bool:=match s with
 | [b]=>decide (65≤b.toNat∧b.toNat≤68)
 |_=>false
theorem q7{s:List UInt8}(h:s.length≠1):lD s=false:=by
 match s,h with
 | [],_=>rfl
 | [b],h=>exact absurd rfl h
 |_::_::_,_=>rfl
theorem aFL{s:List UInt8}(h:s.length=1): ∃b,s=[b]:=by
 match s,h with
 | [b],_=>exact⟨b,rfl⟩
theorem aCb(b:UInt8)(k:Nat)(hk:k<256):(b=UInt8.ofNat k)↔b.toNat=k:=by
 constructor
 ·intro h;rw [h];simp;omega
 ·intro h;rw [←h];simp
theorem A5(b:UInt8):Lib.contains [65,66,67,68] [b]=decide (65≤b.toNat∧b.toNat≤68):=by
 have e1:(b=65)↔b.toNat=65:=aCb b 65 (by omega)
 have e2:(b=66)↔b.toNat=66:=aCb b 66 (by omega)
 have e3:(b=67)↔b.toNat=67:=aCb b 67 (by omega)
 have e4:(b=68)↔b.toNat=68:=aCb b 68 (by omega)
 by_cases h1:b=65
 ·subst h1;decide
 by_cases h2:b=66
 ·subst h2;decide
 by_cases h3:b=67
 ·subst h3;decide
 by_cases h4:b=68
 ·subst h4;decide
 rw [e1] at h1;rw [e2] at h2;rw [e3] at h3;rw [e4] at h4
 rw [decide_eq_false (by omega)]
 rw [←e1] at h1;rw [←e2] at h2;rw [←e3] at h3;rw [←e4] at h4
 simp [Lib.contains,Lib.index,h1,h2,h3,h4]
theorem sW(n:Nat)(s:List UInt8):kO n s=some (lD s):=by
 unfold kO
 by_cases h:s.length=1
 ·obtain⟨b,rfl⟩:=aFL h
  simp only [jn,m_contains]
  rw [if_pos (by simp),A5]
  rfl
 ·rw [decide_eq_false (show¬(s.length:Int)=1 by omega),q7 h];rfl
theorem yE(b:UInt8):Op.bytesLess [b] [65]=decide (b.toNat<65):=by
 simp [Op.bytesLess,UInt8.lt_iff_toNat_lt]
theorem yD(b:UInt8):(Op.bytesLess [b] [68]||[b]==[68])=decide (b.toNat≤68):=by
 have e:(b=68)↔b.toNat=68:=aCb b 68 (by omega)
 by_cases h:b=68
 ·subst h;decide
 ·have h':b.toNat≠68:=fun e'=>h (e.2 e')
  have:([b]==[(68:UInt8)])=false:=by simp [h]
  rw [this,Bool.or_false]
  simp only [Op.bytesLess,Bool.and_false,Bool.or_false,UInt8.lt_iff_toNat_lt]
  apply decide_eq_decide.2
  show b.toNat<68↔_
  omega
def gP(a:Access)(d:Int):Bool:=a.subs.all (fun x=>bO x d)&&(lD a.array&&decide (1≤a.subs.length∧a.subs.length≤2))
theorem aBC{n:Nat}(hn:5000≤n){a:Affine}(ha:SmA a)(d:Int):fQ n a d=some (!bO a d):=yP hn ha d
theorem qP{n:Nat}(hn:5000≤n){a:Access}(ha:wD a.subs)(d:Int):iT n a d=some (gP a d):=by
 obtain⟨h0,h1⟩:=ha
 unfold iT
 rw [sW,nN]
 have hc:=oB (n:=n) (f:=fun q0=>fQ n q0 d) (p:=fun a=> !bO a d) (l:=a.subs) (fun x hx=>aBC hn (h1 x hx) d) (by omega) (by omega)
 simp only [jn,Option.bind]
 rw [hc]
 unfold gP
 have e:(a.subs.any fun a=> !bO a d)= !(a.subs.all fun a=>bO a d):=by
  rw [List.all_eq_not_any_not];simp
 rw [e]
 cases lD a.array<;>cases decide (1≤a.subs.length∧a.subs.length≤2)<;>simp
theorem qM{n:Nat}(hn:5000≤n){a:Access}(ha:wD a.subs)(d:Int):iJ n a d=some (gP a d):=by
 obtain⟨h0,h1⟩:=ha
 refine Ev.eq ?_
 unfold iJ
 refine kH (l:=a.subs) (p:=fun _ a=>bO a d) (by omega) (by omega) (fun again i x hx hgo hno=> ?_) (fun again hall=> ?_) (fun⟨i,x,hx,hp⟩=> ?_)
 ·have hi:=(List.getElem?_eq_some_iff.1 hx).1
  have hm:=h1 x (List.mem_of_getElem? hx)
  rw [decide_eq_true (show(i:Int)<(a.subs.length:Int) by omega)]
  refine dE (Ev.jn (fun z=>z= !bO x d) (fun j hj=>aA (aP hx) (aA (iM hn x hm) ?_)) (fun z hz=> ?_))
  ·cases ha:e9 x with
   |false=>exact hj _ (by unfold bO;rw [ha];rfl)
   |true=>exact aA (qY hn hm) (hj _ (by unfold bO;rw [ha,ltd];simp))
  ·subst hz
   cases hb:bO x d with
   |true=>show Ev (again _) _;rw [aJ (by omega)];exact hgo hb
   |false=>exact Ev.some (hno hb)
 ·rw [decide_eq_false (show¬(a.subs.length:Int)<(a.subs.length:Int) by omega)]
  have e:a.subs.all (fun a=>bO a d)=true:=List.all_eq_true.2 (fun c hc=>by obtain⟨i,hi⟩:=List.getElem?_of_mem hc;exact hall i c hi)
  unfold gP
  rw [e,Bool.true_and]
  refine cG (Ev.jn (fun z=>z=(lD a.array&&decide (1≤a.subs.length∧a.subs.length≤2))) (fun j hj=> ?_) (fun z hz=>Ev.some hz))
  by_cases h:a.array.length=1
  ·rw [decide_eq_true (show(a.array.length:Int)=1 by omega)]
   obtain⟨b,hb⟩:=aFL h
   rw [hb] at hj⊢
   rw [yE,yD]
   show Ev (bif _ then _ else _) _
   simp only [lD] at hj⊢
   by_cases g1:b.toNat<65
   ·rw [decide_eq_true g1]
    exact hj _ (by rw [decide_eq_false (show¬(65≤b.toNat∧b.toNat≤68) by omega)];rfl)
   ·rw [decide_eq_false g1]
    by_cases g2:b.toNat≤68
    ·rw [decide_eq_true g2]
     rw [decide_eq_true (show 65≤b.toNat∧b.toNat≤68 by omega)] at hj⊢
     refine aG (fun h=>hj _ ?_) (fun h=>hj _ ?_)
     ·by_cases h2:a.subs.length≤2
      ·rw [decide_eq_true (show(a.subs.length:Int)≤2 by omega),decide_eq_true (by omega)];rfl
      ·rw [decide_eq_false (show¬(a.subs.length:Int)≤2 by omega),decide_eq_false (by omega)];rfl
     ·rw [decide_eq_false (by omega)];rfl
    ·rw [decide_eq_false g2]
     exact hj _ (by rw [decide_eq_false (show¬(65≤b.toNat∧b.toNat≤68) by omega)];rfl)
  ·rw [decide_eq_false (show¬(a.array.length:Int)=1 by omega)]
   exact hj _ (by rw [q7 h];rfl)
 ·unfold gP
  rw [List.all_eq_false.2 ⟨x,List.mem_of_getElem? hx,by rw [hp];simp⟩];rfl
def jG(a:Affine):Bool:=decide (a.coefs.length=0)&&decide (a.const=0)
def n9(a:Access):Bool:=decide (a.array=[])&&decide (a.subs.length=0)
theorem aEH(k:Nat):decide ((k:Int)=0)=decide (k=0):=decide_eq_decide.2 (by omega)
theorem A0(n:Nat)(a:Affine):iR n a=some (jG a):=by
 unfold iR jG;rw [aEH];cases decide (a.coefs.length=0)<;>rfl
theorem N9(n:Nat)(a:Affine):kX n a=some (jG a):=by
 unfold kX jG;rw [aEH];cases decide (a.coefs.length=0)<;>rfl
theorem A1(n:Nat)(a:Access):fI n a=some (n9 a):=by
 unfold fI n9;rw [aEH];cases decide (a.array=[])<;>rfl
theorem H2(n:Nat)(a:Access):iI n a=some (n9 a):=by
 unfold iI n9;rw [aEH];cases decide (a.array=[])<;>rfl
def gL(e:Expr)(d:Int):Bool:=
 if e.kind=2 then decide (e.num=0)&&(n9 e.read&&bO e.index d)
 else if e.kind=3 then decide (e.num=0)&&(jG e.index&&gP e.read d)
 else if e.kind=1 then decide (0≤e.num∧e.num≤99)&&(jG e.index&&n9 e.read)
 else decide (e.num=0)&&(jG e.index&&n9 e.read)
def fG(k:Int):Int:=if k=1∨k=2∨k=3 then 0 else if k=4∨k=5∨k=6 then 2 else-1
theorem O0(n:Nat)(k:Int):o7 n k=some (fG k):=by
 unfold o7 fG
 by_cases h1:k=1
 ·subst h1;rfl
 by_cases h2:k=2
 ·subst h2;rfl
 by_cases h3:k=3
 ·subst h3;rfl
 by_cases h4:k=4
 ·subst h4;rfl
 by_cases h5:k=5
 ·subst h5;rfl
 by_cases h6:k=6
 ·subst h6;rfl
 simp [jn,h1,h2,h3,h4,h5,h6]
theorem V9{n:Nat}(hn:5000≤n){e:Expr}(h1:SmA e.index)(h2:wD e.read.subs)(d:Int):sB n e d=some (gL e d):=by
 unfold sB gL
 rw [H2,N9,iM hn _ h1,qY hn h1,qM hn h2]
 by_cases k2:e.kind=2
 ·rw [if_pos k2,decide_eq_true k2]
  simp only [jn,Option.bind,cond_true,bO]
  cases decide (e.num=0)<;>cases n9 e.read<;>cases e9 e.index<;>simp
 ·rw [if_neg k2,decide_eq_false k2]
  by_cases k3:e.kind=3
  ·rw [if_pos k3,decide_eq_true k3]
   simp only [jn,Option.bind,cond_true,cond_false]
   cases decide (e.num=0)<;>cases jG e.index<;>simp
  ·rw [if_neg k3,decide_eq_false k3]
   by_cases k1:e.kind=1
   ·rw [if_pos k1,decide_eq_true k1]
    simp only [jn,Option.bind,cond_true,cond_false]
    by_cases g1:0≤e.num<;>by_cases g2:e.num≤99<;>cases jG e.index<;>simp [g1,g2]
   ·rw [if_neg k1,decide_eq_false k1]
    simp only [jn,Option.bind,cond_false]
    cases decide (e.num=0)<;>cases jG e.index<;>simp
end Go.Lift
