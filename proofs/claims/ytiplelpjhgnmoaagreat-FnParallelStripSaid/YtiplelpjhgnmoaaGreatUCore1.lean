/- Plain facts on sums of products, on ranges, on the points of a nest. -/
import Derived.Test.YtiplelpjhgnmoaaGreatULawDraw
set_option maxRecDepth 100000
set_option linter.unusedVariables false
namespace Go.Lift
open Go
def yU:List Int→List Int→Int
 |c::cs,x::xs=>c*x+yU cs xs
 |_,_=>0
def qX(m:Int)(x:Int):Prop:= -m≤x∧x≤m
theorem aG2{a b c x:Int}(ha:0≤a)(hb:0≤b)(h1:qX a c)(h2:qX b x):qX (a*b) (c*x):=by
 obtain⟨p1,p2⟩:=h1
 obtain⟨q1,q2⟩:=h2
 constructor
 ·have h:=Int.mul_nonneg (show 0≤a+c by omega) (show 0≤b+x by omega)
  have k:=Int.mul_nonneg (show 0≤a-c by omega) (show 0≤b-x by omega)
  have e1:(a+c)*(b+x)=a*b+a*x+c*b+c*x:=by rw [Int.add_mul,Int.mul_add,Int.mul_add];omega
  have e2:(a-c)*(b-x)=a*b-a*x-c*b+c*x:=by rw [Int.sub_mul,Int.mul_sub,Int.mul_sub];omega
  rw [e1] at h;rw [e2] at k;omega
 ·have h:=Int.mul_nonneg (show 0≤a+c by omega) (show 0≤b-x by omega)
  have k:=Int.mul_nonneg (show 0≤a-c by omega) (show 0≤b+x by omega)
  have e1:(a+c)*(b-x)=a*b-a*x+c*b-c*x:=by rw [Int.add_mul,Int.mul_sub,Int.mul_sub];omega
  have e2:(a-c)*(b+x)=a*b+a*x-c*b-c*x:=by rw [Int.sub_mul,Int.mul_add,Int.mul_add];omega
  rw [e1] at h;rw [e2] at k;omega
theorem aAY(cs:List Int):yU cs []=0:=by cases cs<;>rfl
theorem aCd: ∀{cs xs:List Int} {c x:Int},cs[xs.length]? =some c→yU cs (xs++[x])=yU cs xs+c*x
 | [],xs,c,x,h=>by simp at h
 |d::cs,[],c,x,h=>by simp at h;subst h;simp [yU,aAY]
 |d::cs,y::xs,c,x,h=>by
  have h:cs[xs.length]? =some c:=by simpa using h
  simp only [List.cons_append,yU];rw [aCd h];omega
theorem aCc{cs xs:List Int}{i:Nat}{c x:Int}(hc:cs[i]? =some c)(hx:xs[i]? =some x):yU cs (xs.take (i+1))=yU cs (xs.take i)+c*x:=by
 have hi:=(List.getElem?_eq_some_iff.1 hx).1
 rw [List.take_add_one,hx]
 exact aCd (by simpa [Nat.min_eq_left (Nat.le_of_lt hi)] using hc)
theorem aHZ{M:Int}(hM:0≤M): ∀{cs xs:List Int},(∀c∈cs,qX 9 c)→(∀x∈xs,qX M x)→qX (9*M*xs.length) (yU cs xs)
 | [],xs,_,_=>by
  have:0≤9*M*(xs.length:Int):=Int.mul_nonneg (by omega) (by omega)
  simp only [yU,qX];omega
 |d::cs,[],_,_=>by simp [yU,qX]
 |d::cs,y::xs,hc,hx=>by
  have h1:=aHZ hM (cs:=cs) (xs:=xs) (fun c h=>hc c (by simp [h])) (fun x h=>hx x (by simp [h]))
  have h2:=aG2 (by omega) hM (hc d (by simp)) (hx y (by simp))
  have e:9*M*((y::xs).length:Int)=9*M*(xs.length:Int)+9*M:=by simp [Int.mul_add]
  rw [e]
  simp only [yU,qX] at*
  omega
def iM(lo hi:Int):List Int:=(List.range (hi-lo).toNat).map (fun(i:Nat)=>lo+(i:Int))
theorem aAt{lo hi v:Int}:v∈iM lo hi↔lo≤v∧v<hi:=by
 simp only [iM,List.mem_map,List.mem_range]
 constructor
 ·rintro⟨i,hi,rfl⟩;omega
 ·intro h;exact⟨(v-lo).toNat,by omega,by omega⟩
theorem eN{lo hi:Int}(h:hi≤lo):iM lo hi=[]:=by
 unfold iM;rw [show(hi-lo).toNat=0 by omega];rfl
theorem iS{lo hi:Int}(h:lo≤hi):iM lo (hi+1)=iM lo hi++[hi]:=by
 unfold iM
 rw [show(hi+1-lo).toNat=(hi-lo).toNat+1 by omega,List.range_succ,List.map_append]
 simp;omega
theorem uE{lo v hi:Int}(h1:lo≤v)(h2:v<hi):iM lo hi=iM lo v++v::iM (v+1) hi:=by
 obtain⟨k,hk⟩: ∃k:Nat,hi=v+1+k:=⟨(hi-v-1).toNat,by omega⟩
 subst hk
 clear h2
 induction k with
 |zero=>
  rw [show v+1+((0:Nat):Int)=v+1 by omega,iS h1,eN (Int.le_refl _)]
 |succ k ih=>
  rw [show v+1+((k+1:Nat):Int)=v+1+(k:Int)+1 by omega,iS (by omega),ih,iS (by omega)]
  simp
theorem H3{α:Type}{f:α→Option Bool}{p:α→Bool}{l:List α}(hf: ∀x∈l,f x=some (p x)){n:Nat}(hl:l.length<n)(hl2:l.length≤1000000):
  ∃r:Int,aL (fun again2 (x1:Int)=>bif decide (x1<(l.length:Int)) then(Option.bind (ix l x1) fun x3=>Option.bind (f x3) fun x4=>bif x4 then(some x1) else(again2 (wr (x1+1)))) else(some (-1))) n 0=some r∧decide (0≤r)=l.any p:=by
 suffices h:Ev (aL (fun again2 (x1:Int)=>bif decide (x1<(l.length:Int)) then(Option.bind (ix l x1) fun x3=>Option.bind (f x3) fun x4=>bif x4 then(some x1) else(again2 (wr (x1+1)))) else(some (-1))) n 0) (fun r=>decide (0≤r)=l.any p) by exact h
 refine Ev.loop (fun x:Int=>0≤x∧x≤l.length∧(l.take x.toNat).any p=false) (fun x:Int=>l.length-x.toNat) ?_ n 0 ⟨by omega,by omega,by simp⟩ (by simp;omega)
 rintro again x ⟨h0,h1,h2⟩ hr
 refine aG (fun hlt=> ?_) (fun hge=> ?_)
 ·obtain⟨y,hy,hy2⟩:=gW h0 hlt
  have hm:=List.mem_of_getElem? hy2
  refine aA hy (aA (hf y hm) (Ev.cond (fun ht=>Ev.some ?_) (fun hfl=> ?_)))
  ·rw [show l.any p=true from List.any_eq_true.2 ⟨y,hm,ht⟩];simp [h0]
  ·rw [aK (by omega)]
   refine hr _ ⟨by omega,by omega,?_⟩ (by omega)
   rw [show(x+1).toNat=x.toNat+1 by omega,List.take_add_one,hy2]
   simp [h2,hfl]
 ·refine Ev.some ?_
  have hx:x.toNat=l.length:=by omega
  rw [hx,List.take_length] at h2
  rw [h2];simp
theorem q9{f:Int→Option Bool}{p:Int→Bool}{l:List Int}(hf: ∀x∈l,f x=some (p x)){n:Nat}(hl:l.length<n)(hl2:l.length≤1000000):bP n l f=some (l.any p):=by
 obtain⟨r,h1,h2⟩:=H3 hf hl hl2
 unfold bP eJ
 rw [h1,←h2];rfl
theorem mG{f:Affine→Option Bool}{p:Affine→Bool}{l:List Affine}(hf: ∀x∈l,f x=some (p x)){n:Nat}(hl:l.length<n)(hl2:l.length≤1000000):bL n l f=some (l.any p):=by
 obtain⟨r,h1,h2⟩:=H3 hf hl hl2
 unfold bL dC
 rw [h1,←h2];rfl
theorem T8{f:Stmt→Option Bool}{p:Stmt→Bool}{l:List Stmt}(hf: ∀x∈l,f x=some (p x)){n:Nat}(hl:l.length<n)(hl2:l.length≤1000000):dU n l f=some (l.any p):=by
 obtain⟨r,h1,h2⟩:=H3 hf hl hl2
 unfold dU iF
 rw [h1,←h2];rfl
theorem E9{f:Access→Option Bool}{p:Access→Bool}{l:List Access}(hf: ∀x∈l,f x=some (p x)){n:Nat}(hl:l.length<n)(hl2:l.length≤1000000):cZ n l f=some (l.any p):=by
 obtain⟨r,h1,h2⟩:=H3 hf hl hl2
 unfold cZ fX
 rw [h1,←h2];rfl
theorem m5{α:Type}{l:List α}{p:Nat→α→Bool}{Q:Bool→Prop}{body:(Int→Option Bool)→Int→Option Bool}{n:Nat}(hl:l.length<n)(hl2:l.length≤1000000)
  (hstep: ∀again (i:Nat) x,l[i]? =some x→(p i x=true→Ev (again ((i:Int)+1)) Q)→(p i x=false→Q false)→Ev (body again (i:Int)) Q)
  (hend: ∀again,(∀(i:Nat) x,l[i]? =some x→p i x=true)→Ev (body again (l.length:Int)) Q) (hbad:(∃(i:Nat) (x:α),l[i]? =some x∧p i x=false)→Q false):Ev (aL body n 0) Q:=by
 refine Ev.loop (fun x:Int=> ∃i:Nat,x=i∧i≤l.length∧ ∀(j:Nat) y,j<i→l[j]? =some y→p j y=true) (fun x:Int=>l.length-x.toNat) ?_ n 0 ⟨0,rfl,by omega,fun j y h=>by omega⟩ (by simp;omega)
 rintro again x ⟨i,rfl,hi,ha⟩ hr
 by_cases hlt:i<l.length
 ·have hx:=List.getElem?_eq_getElem hlt
  refine hstep again i _ hx (fun hp=>hr _ ⟨i+1,by omega,by omega,fun j y hj hy=> ?_⟩ (by omega)) (fun hp=>hbad ⟨i,_,hx,hp⟩)
  by_cases hji:j=i
  ·subst hji;rw [hx] at hy;cases hy;exact hp
  ·exact ha j y (by omega) hy
 ·have hil:i=l.length:=by omega
  subst hil
  exact hend again (fun j y hy=>ha j y (List.getElem?_eq_some_iff.1 hy).1 hy)
def b7(a:Affine):Bool:=decide (a.coefs.length=4)&&(decide (-99≤a.const∧a.const≤99)&&a.coefs.all (fun c=>decide (-9≤c∧c≤9)))
theorem iJ{a:Affine}(h:b7 a=true):a.coefs.length=4∧qX 99 a.const∧ ∀c∈a.coefs,qX 9 c:=by
 simp only [b7,Bool.and_eq_true,decide_eq_true_eq,List.all_eq_true] at h
 exact⟨h.1,h.2.1,h.2.2⟩
theorem dN(n:Nat)(x a b:Int):cB n x a b=some (decide (a≤x∧x≤b)):=by
 unfold cB
 by_cases h1:a≤x<;>by_cases h2:x≤b<;>simp [jn,h1,h2]
theorem pW{n:Nat}(hn:5000≤n)(a:Affine)(ha:a.coefs.length≤1000):e9 n a=some (b7 a):=by
 have hf: ∀x∈a.coefs,eK n x=some (!decide (-9≤x∧x≤9)):=fun x _=>by unfold eK;rw [dN];rfl
 have hc:=q9 (n:=n) hf (by omega) (by omega)
 unfold e9 uL
 rw [dN]
 simp only [jn,Option.bind]
 rw [hc]
 unfold b7
 have e:(a.coefs.any fun x=> !decide (-9≤x∧x≤9))= !(a.coefs.all fun c=>decide (-9≤c∧c≤9)):=by
  rw [List.all_eq_not_any_not];simp
 rw [e]
 by_cases h1:a.coefs.length=4
 ·rw [decide_eq_true (show(a.coefs.length:Int)=4 by omega),decide_eq_true h1]
  generalize decide (-99≤a.const∧a.const≤99)=b
  cases b<;>simp
 ·rw [decide_eq_false (show¬(a.coefs.length:Int)=4 by omega),decide_eq_false h1];rfl
theorem sH(n:Nat)(x m:Int)(hm:0≤m∧m≤1000000000):jL n x m=some (decide (-m≤x∧x≤m)):=by
 unfold jL
 rw [aK (by omega)]
 by_cases h1: -m≤x<;>by_cases h2:x≤m
 ·simp [jn,h1,h2]
 ·simp [jn,h1,h2]
 ·simp [jn,h1,h2]
 ·simp [jn,h1,h2]
theorem lG{n:Nat}(hn:5000≤n)(a:Affine)(ha:a.coefs.length≤1000):dY n a=some (b7 a):=by
 refine Ev.eq ?_
 unfold dY
 refine m5 (l:=a.coefs) (p:=fun _ c=>decide (-9≤c∧c≤9)) (by omega) (by omega) (fun again i x hx hgo hno=> ?_) (fun again hall=> ?_) (fun⟨i,x,hx,hp⟩=> ?_)
 ·rw [decide_eq_true (show(i:Int)<(a.coefs.length:Int) by have:=(List.getElem?_eq_some_iff.1 hx).1;omega)]
  refine aA (aN hx) (aA (sH n x 9 (by omega)) ?_)
  have hi:=(List.getElem?_eq_some_iff.1 hx).1
  cases hp:decide (-9≤x∧x≤9) with
  |true=>show Ev (again _) _;rw [aK (by omega)];exact hgo hp
  |false=>exact Ev.some (hno hp)
 ·rw [decide_eq_false (show¬(a.coefs.length:Int)<(a.coefs.length:Int) by omega)]
  have e:a.coefs.all (fun c=>decide (-9≤c∧c≤9))=true:=List.all_eq_true.2 (fun c hc=>by obtain⟨i,hi⟩:=List.getElem?_of_mem hc;exact hall i c hi)
  refine Ev.cond (fun h=>(by cases h)) (fun _=> ?_)
  unfold b7
  rw [e]
  refine Ev.jn (fun z:Bool=>z=(decide (a.coefs.length=4)&&(decide (-99≤a.const∧a.const≤99)&&true))) (fun j hj=> ?_) (fun z hz=>Ev.some hz)
  refine aG (fun h=>aA (sH n a.const 99 (by omega)) (hj _ ?_)) (fun h=>hj _ ?_)
  ·rw [decide_eq_true (show a.coefs.length=4 by omega)];simp
  ·rw [decide_eq_false (show¬a.coefs.length=4 by omega)];rfl
 ·unfold b7
  have e:a.coefs.all (fun c=>decide (-9≤c∧c≤9))=false:=List.all_eq_false.2 ⟨x,List.mem_of_getElem? hx,by rw [hp];simp⟩
  rw [e];simp
def cJ(a:Affine)(p:List Int):Int:=a.const+yU a.coefs p
def ptB(M:Int)(p:List Int):Prop:= ∀x∈p,qX M x
theorem uN{a:Affine}(ha:b7 a=true){p:List Int}(hp:p.length≤4){M:Int}(hM:0≤M∧M≤1000000000)(hB:ptB M p)(i:Nat)(hi:i≤p.length):qX 1000000000000 (a.const+yU a.coefs (p.take i)):=by
 obtain⟨h1,h2,h3⟩:=iJ ha
 have h4:=aHZ (M:=M) hM.1 (cs:=a.coefs) (xs:=p.take i) h3 (fun x hx=>hB x (List.mem_of_mem_take hx))
 have h5:(p.take i).length≤4:=by simp;omega
 have h6:9*M*((p.take i).length:Int)≤9*M*4:=Int.mul_le_mul_of_nonneg_left (by omega) (by omega)
 simp only [qX] at*
 omega
theorem aFN{n:Nat}(hn:5000≤n){a:Affine}(ha:b7 a=true){p:List Int}(hp:p.length≤4){M:Int}(hM:0≤M∧M≤1000000000)(hB:ptB M p):cI n a p=some (cJ a p):=by
 obtain⟨h1,h2,h3⟩:=iJ ha
 refine Ev.eq ?_
 unfold cI
 refine Ev.loop (fun x:Int×Int=> ∃i:Nat,x.2=i∧i≤p.length∧x.1=a.const+yU a.coefs (p.take i)) (fun x=>p.length-x.2.toNat) ?_ n _ ⟨0,rfl,by omega,by simp [aAY]⟩ (by simp;omega)
 rintro again ⟨x,k⟩ ⟨i,hk,hi,hx⟩ hr
 dsimp only at hk hx⊢
 subst hk
 refine aG (fun hlt=> ?_) (fun hge=>Ev.some ?_)
 ·have hlt:i<p.length:=by omega
  have hp2:=List.getElem?_eq_getElem hlt
  have hc2:=List.getElem?_eq_getElem (show i<a.coefs.length by omega)
  have hd:=aCc hc2 hp2
  have e1:=uN ha hp hM hB i hi
  have e2:=uN ha hp hM hB (i+1) (by omega)
  rw [hd] at e2
  have e3:=aG2 (by omega) hM.1 (h3 _ (List.mem_of_getElem? hc2)) (hB _ (List.mem_of_getElem? hp2))
  refine aA (aN hp2) (aA (aN hc2) ?_)
  simp only [qX] at e1 e2 e3
  rw [aK (n:=a.coefs[i]*p[i]) (by omega),aK (by omega),aK (by omega)]
  refine hr _ ⟨i+1,by dsimp only;omega,by omega,?_⟩ (by dsimp only;omega)
  dsimp only
  rw [hd,hx];omega
 ·have:i=p.length:=by omega
  rw [hx,this,List.take_length];rfl
theorem aFv{n:Nat}(hn:5000≤n){a:Affine}(ha:b7 a=true){p:List Int}(hp:p.length≤4){M:Int}(hM:0≤M∧M≤1000000000)(hB:ptB M p):gQ n a p=some (cJ a p):=by
 obtain⟨h1,h2,h3⟩:=iJ ha
 refine Ev.eq ?_
 unfold gQ
 refine Ev.loop (fun x:Int×Int=> ∃i:Nat,x.2=i∧i≤p.length∧x.1=a.const+yU a.coefs (p.take i)) (fun x=>p.length-x.2.toNat) ?_ n _ ⟨0,rfl,by omega,by simp [aAY]⟩ (by simp;omega)
 rintro again ⟨x,k⟩ ⟨i,hk,hi,hx⟩ hr
 dsimp only at hk hx⊢
 subst hk
 refine Ev.jn (fun z=>z=decide (i<p.length)) (fun j hj=>aG (fun h=>hj _ ?_) (fun h=>hj _ ?_)) (fun z hz=> ?_)
 ·rw [decide_eq_true (show i<p.length by omega),decide_eq_true (show(i:Int)<(a.coefs.length:Int) by omega)]
 ·rw [decide_eq_false (show¬i<p.length by omega)]
 subst hz
 refine aG (fun hlt=> ?_) (fun hge=>Ev.some ?_)
 ·have hp2:=List.getElem?_eq_getElem hlt
  have hc2:=List.getElem?_eq_getElem (show i<a.coefs.length by omega)
  have hd:=aCc hc2 hp2
  have e1:=uN ha hp hM hB i hi
  have e2:=uN ha hp hM hB (i+1) (by omega)
  rw [hd] at e2
  have e3:=aG2 (by omega) hM.1 (h3 _ (List.mem_of_getElem? hc2)) (hB _ (List.mem_of_getElem? hp2))
  refine aA (aN hc2) (aA (aN hp2) ?_)
  simp only [qX] at e1 e2 e3
  rw [aK (n:=a.coefs[i]*p[i]) (by omega),aK (by omega),aK (by omega)]
  refine hr _ ⟨i+1,by dsimp only;omega,by omega,?_⟩ (by dsimp only;omega)
  dsimp only
  rw [hd,hx];omega
 ·have:i=p.length:=by omega
  rw [hx,this,List.take_length];rfl
theorem bW{R:Type}{Q:R→Prop}{A B:Option R}(h:Ev A Q):Ev (bif true then A else B) Q:=h
theorem bT{R:Type}{Q:R→Prop}{A B:Option R}(h:Ev B Q):Ev (bif false then A else B) Q:=h
def dL:List Int→Nat
 | []=>0
 |c::cs=>if dL cs=0 then(if c=0 then 0 else 1) else dL cs+1
theorem D1: ∀(l:List Int) (c:Int),dL (l++[c])=if c=0 then dL l else l.length+1
 | [],c=>by simp [dL]
 |d::l,c=>by
  have ih:=D1 l c
  simp only [List.cons_append,dL,ih]
  by_cases hc:c=0
  ·simp [hc]
  ·simp [hc]
theorem D0{l:List Int}{i:Nat}{c:Int}(h:l[i]? =some c):dL (l.take (i+1))=if c=0 then dL (l.take i) else i+1:=by
 have hi:=(List.getElem?_eq_some_iff.1 h).1
 rw [List.take_add_one,h]
 show dL (l.take i++[c])=_
 rw [D1,List.length_take,Nat.min_eq_left (Nat.le_of_lt hi)]
theorem mC: ∀{l:List Int} {i:Nat} {c:Int},l[i]? =some c→dL l≤i→c=0
 | [],i,c,h,_=>by simp at h
 |d::l,0,c,h,hd=>by
  simp at h;subst h
  simp only [dL] at hd
  by_cases h1:dL l=0
  ·by_cases h2:d=0
   ·exact h2
   ·simp [h1,h2] at hd
  ·simp [h1] at hd
 |d::l,i+1,c,h,hd=>by
  have h:l[i]? =some c:=by simpa using h
  refine mC h ?_
  simp only [dL] at hd
  by_cases h1:dL l=0
  ·omega
  ·rw [if_neg h1] at hd;omega
def SmA(a:Affine):Prop:=a.coefs.length≤1000
def G0(l:List Affine):Prop:=l.length≤1000∧ ∀a∈l,SmA a
theorem vQ{n:Nat}(hn:5000≤n){a:Affine}(ha:SmA a):lF n a=some (dL a.coefs:Int):=by
 have ha:a.coefs.length≤1000:=ha
 refine Ev.eq ?_
 unfold lF
 refine Ev.loop (fun x:Int×Int=> ∃i:Nat,x.2=i∧i≤a.coefs.length∧x.1=(dL (a.coefs.take i):Int)) (fun x=>a.coefs.length-x.2.toNat) ?_ n _ ⟨0,rfl,by omega,by simp [dL]⟩ (by simp;omega)
 rintro again ⟨x,k⟩ ⟨i,hk,hi,hx⟩ hr
 dsimp only at hk hx⊢
 subst hk
 refine aG (fun hlt=> ?_) (fun hge=>Ev.some ?_)
 ·have hlt:i<a.coefs.length:=by omega
  have hc:=List.getElem?_eq_getElem hlt
  have hd:=D0 hc
  refine Ev.jn (fun z:Int=>z=(dL (a.coefs.take (i+1)):Int)) (fun j hj=>aA (aN hc) (dP (fun h0=>hj _ ?_) (fun h0=>hj _ ?_))) (fun z hz=> ?_)
  ·rw [hd,if_neg h0,aK (by omega)];omega
  ·rw [hd,if_pos h0,hx]
  ·rw [aK (by omega)]
   exact hr _ ⟨i+1,by dsimp only;omega,by omega,hz⟩ (by dsimp only;omega)
 ·have:i=a.coefs.length:=by omega
  rw [hx,this,List.take_length]
theorem vZ{n:Nat}(hn:5000≤n){a:Affine}(ha:SmA a):dK n a=some (dL a.coefs:Int):=by
 have ha:a.coefs.length≤1000:=ha
 refine Ev.eq ?_
 unfold dK
 refine Ev.loop (fun x:Int=> ∃i:Nat,x=i∧i≤a.coefs.length∧dL a.coefs=dL (a.coefs.take i)) (fun x=>x.toNat) ?_ n _ ⟨a.coefs.length,rfl,by omega,by rw [List.take_length]⟩ (by simp;omega)
 rintro again x ⟨i,rfl,hi,hx⟩ hr
 cases i with
 |zero=>
  refine Ev.jn (fun z=>z=false) (fun j hj=>aG (fun h=>absurd h (by decide)) (fun h=>hj _ rfl)) (fun z hz=> ?_)
  subst hz
  exact Ev.some (by rw [hx];rfl)
 |succ i=>
  have hlt:i<a.coefs.length:=by omega
  have hc:=List.getElem?_eq_getElem hlt
  have hd:=D0 hc
  have e:wr (((i+1:Nat):Int)-1)=(i:Int):=by rw [aK (by omega)];omega
  rw [e]
  refine Ev.jn (fun z=>z=decide (a.coefs[i]=0)) (fun j hj=>aG (fun h=>aA (aN hc) (hj _ rfl)) (fun h=>absurd (show(0:Int)<((i+1:Nat):Int) by omega) h)) (fun z hz=> ?_)
  subst hz
  refine aG (fun h0=> ?_) (fun h0=>Ev.some ?_)
  ·exact hr _ ⟨i,rfl,by omega,by rw [hx,hd,if_pos h0]⟩ (by omega)
  ·rw [hx,hd,if_neg h0]
def bV(a:Affine)(d:Int):Bool:=b7 a&&decide ((dL a.coefs:Int)≤d)
def cK(l:List Affine)(d:Int):Bool:=l.all (fun a=>bV a d)&&decide (1≤l.length∧l.length≤2)
theorem ltd(a b:Int):decide (a<b)= !decide (b≤a):=by
 by_cases h:a<b
 ·rw [decide_eq_true h,decide_eq_false (by omega)];rfl
 ·rw [decide_eq_false h,decide_eq_true (by omega)];rfl
theorem C1{n:Nat}(hn:5000≤n){l:List Affine}(hl:G0 l)(d:Int):pI n l d=some (cK l d):=by
 obtain⟨h0,h1⟩:=hl
 refine Ev.eq ?_
 unfold pI
 refine m5 (l:=l) (p:=fun _ a=>bV a d) (by omega) (by omega) (fun again i x hx hgo hno=> ?_) (fun again hall=> ?_) (fun⟨i,x,hx,hp⟩=> ?_)
 ·have hi:=(List.getElem?_eq_some_iff.1 hx).1
  have hm:=h1 x (List.mem_of_getElem? hx)
  rw [decide_eq_true (show(i:Int)<(l.length:Int) by omega)]
  refine bW (Ev.jn (fun z=>z= !bV x d) (fun j hj=>aA (aN hx) (aA (lG hn x hm) ?_)) (fun z hz=> ?_))
  ·cases ha:b7 x with
   |false=>exact hj _ (by unfold bV;rw [ha];rfl)
   |true=>exact aA (vQ hn hm) (hj _ (by unfold bV;rw [ha,ltd];simp))
  ·subst hz
   cases hb:bV x d with
   |true=>show Ev (again _) _;rw [aK (by omega)];exact hgo hb
   |false=>exact Ev.some (hno hb)
 ·rw [decide_eq_false (show¬(l.length:Int)<(l.length:Int) by omega)]
  have e:l.all (fun a=>bV a d)=true:=List.all_eq_true.2 (fun c hc=>by obtain⟨i,hi⟩:=List.getElem?_of_mem hc;exact hall i c hi)
  unfold cK
  rw [e]
  refine bT (Ev.jn (fun z=>z=decide (1≤l.length∧l.length≤2)) (fun j hj=>aG (fun h=>hj _ ?_) (fun h=>hj _ ?_)) (fun z hz=>Ev.some (by rw [hz];rfl)))
  ·by_cases h2:l.length≤2
   ·rw [decide_eq_true (show(l.length:Int)≤2 by omega),decide_eq_true (by omega)]
   ·rw [decide_eq_false (show¬(l.length:Int)≤2 by omega),decide_eq_false (by omega)]
  ·rw [decide_eq_false (by omega)]
 ·unfold cK
  rw [List.all_eq_false.2 ⟨x,List.mem_of_getElem? hx,by rw [hp];simp⟩];rfl
theorem N3{n:Nat}(hn:5000≤n){a:Affine}(ha:SmA a)(d:Int):fY n a d=some (!bV a d):=by
 unfold fY
 rw [pW hn a ha]
 simp only [jn,Option.bind]
 cases hb:b7 a with
 |false=>simp [bV,hb]
 |true=>
  rw [vZ hn ha]
  simp only [bV,hb,Bool.not_true,cond_false,Bool.true_and]
  rw [ltd]
theorem qY(n k:Nat):cB n (k:Int) 1 2=some (decide (1≤k∧k≤2)):=by
 rw [dN]
 congr 1
 by_cases h:1≤k∧k≤2
 ·rw [decide_eq_true h,decide_eq_true (by omega)]
 ·rw [decide_eq_false h,decide_eq_false (by omega)]
theorem u9{n:Nat}(hn:5000≤n){l:List Affine}(hl:G0 l)(d:Int):lM n l d=some (cK l d):=by
 obtain⟨h0,h1⟩:=hl
 unfold lM
 rw [qY]
 have hc:=mG (n:=n) (f:=fun q0=>fY n q0 d) (p:=fun a=> !bV a d) (l:=l) (fun x hx=>N3 hn (h1 x hx) d) (by omega) (by omega)
 simp only [jn,Option.bind]
 rw [hc]
 unfold cK
 have e:(l.any fun a=> !bV a d)= !(l.all fun a=>bV a d):=by
  rw [List.all_eq_not_any_not];simp
 rw [e]
 cases decide (1≤l.length∧l.length≤2)<;>simp
def N1{α:Type}(p:Nat→α→Bool)(l:List α):Bool:=l.zipIdx.all fun q=>p q.2 q.1
theorem oH{α:Type}{p:Nat→α→Bool}{l:List α}(h: ∀(i:Nat) x,l[i]? =some x→p i x=true):N1 p l=true:=
 List.all_eq_true.2 (fun q hq=>h q.2 q.1 (List.mem_zipIdx_iff_getElem?.1 hq))
theorem mR{α:Type}{p:Nat→α→Bool}{l:List α}{i:Nat}{x:α}(h:l[i]? =some x)(hp:p i x=false):N1 p l=false:=
 List.all_eq_false.2 ⟨(x,i),List.mem_zipIdx_iff_getElem?.2 h,by rw [hp];simp⟩
theorem M9{α:Type}{p:Nat→α→Bool}{l:List α}(h:N1 p l=true){i:Nat}{x:α}(hx:l[i]? =some x):p i x=true:=
 List.all_eq_true.1 h (x,i) (List.mem_zipIdx_iff_getElem?.2 hx)
def kK(nest:List Loop):Bool:=N1 (fun i l=>cK l.lo (i:Int)&&cK l.hi (i:Int)) nest&&decide (nest.length≤4)
def SmN(nest:List Loop):Prop:=nest.length≤1000∧ ∀l∈nest,G0 l.lo∧G0 l.hi
theorem N5{n:Nat}(hn:5000≤n){nest:List Loop}(h:SmN nest):mA n nest=some (kK nest):=by
 obtain⟨h0,h1⟩:=h
 refine Ev.eq ?_
 unfold mA
 refine m5 (l:=nest) (p:=fun i l=>cK l.lo (i:Int)&&cK l.hi (i:Int)) (by omega) (by omega) (fun again i x hx hgo hno=> ?_) (fun again hall=> ?_) (fun⟨i,x,hx,hp⟩=> ?_)
 ·have hi:=(List.getElem?_eq_some_iff.1 hx).1
  obtain⟨m1,m2⟩:=h1 x (List.mem_of_getElem? hx)
  rw [decide_eq_true (show(i:Int)<(nest.length:Int) by omega)]
  refine aA (aN hx) (Ev.jn (fun z=>z= !(cK x.lo (i:Int)&&cK x.hi (i:Int))) (fun j hj=>aA (u9 hn m1 _) ?_) (fun z hz=> ?_))
  ·cases ha:cK x.lo (i:Int) with
   |false=>exact hj _ (by rw [ha];rfl)
   |true=>exact aA (u9 hn m2 _) (hj _ (by rw [ha];rfl))
  ·subst hz
   cases hb:(cK x.lo (i:Int)&&cK x.hi (i:Int)) with
   |true=>show Ev (again _) _;rw [aK (by omega)];exact hgo hb
   |false=>exact Ev.some (hno hb)
 ·rw [decide_eq_false (show¬(nest.length:Int)<(nest.length:Int) by omega)]
  refine Ev.some ?_
  unfold kK
  rw [oH hall,Bool.true_and]
  exact decide_eq_decide.2 (by omega)
 ·unfold kK;rw [mR hx hp];rfl
theorem J5{n:Nat}(hn:5000≤n){nest:List Loop}(h:SmN nest):l5 n nest=some (kK nest):=by
 obtain⟨h0,h1⟩:=h
 unfold l5
 by_cases h4:nest.length≤4
 ·rw [decide_eq_true (show(nest.length:Int)≤4 by omega)]
  refine Ev.eq ?_
  refine m5 (l:=nest) (p:=fun i l=>cK l.lo (i:Int)&&cK l.hi (i:Int)) (by omega) (by omega) (fun again i x hx hgo hno=> ?_) (fun again hall=> ?_) (fun⟨i,x,hx,hp⟩=> ?_)
  ·have hi:=(List.getElem?_eq_some_iff.1 hx).1
   obtain⟨m1,m2⟩:=h1 x (List.mem_of_getElem? hx)
   rw [decide_eq_true (show(i:Int)<(nest.length:Int) by omega)]
   refine Ev.jn (fun z=>z=true) (fun j hj=>bW (hj _ rfl)) (fun z hz=> ?_)
   subst hz
   refine bW (Ev.jn (fun z=>z= !(cK x.lo (i:Int)&&cK x.hi (i:Int))) (fun j hj=>aA (aN hx) (aA (C1 hn m1 _) ?_)) (fun z hz=> ?_))
   ·cases ha:cK x.lo (i:Int) with
    |false=>exact hj _ (by rw [ha];rfl)
    |true=>exact aA (C1 hn m2 _) (hj _ (by rw [ha];rfl))
   ·subst hz
    cases hb:(cK x.lo (i:Int)&&cK x.hi (i:Int)) with
    |true=>show Ev (again _) _;rw [aK (by omega)];exact hgo hb
    |false=>exact Ev.some (hno hb)
  ·rw [decide_eq_false (show¬(nest.length:Int)<(nest.length:Int) by omega)]
   refine Ev.jn (fun z=>z=false) (fun j hj=>bT (hj _ rfl)) (fun z hz=> ?_)
   subst hz
   refine Ev.some ?_
   unfold kK
   rw [oH hall,decide_eq_true h4];rfl
  ·unfold kK;rw [mR hx hp];rfl
 ·obtain⟨k,rfl⟩: ∃k,n=k+1:=⟨n-1,by omega⟩
  rw [decide_eq_false (show¬(nest.length:Int)≤4 by omega)]
  unfold kK
  rw [decide_eq_false h4,Bool.and_false]
  simp only [aL,jn]
  cases decide ((0:Int)<(nest.length:Int))<;>rfl
def mx:List Int→Int
 | []=>0
 |x::xs=>xs.foldl max x
def mn:List Int→Int
 | []=>0
 |x::xs=>xs.foldl min x
theorem aJb{l:List Int}(h:l≠[])(x:Int):mx (l++[x])=max (mx l) x:=by
 cases l with
 |nil=>exact absurd rfl h
 |cons a l=>simp [mx,List.foldl_append]
theorem aJd{l:List Int}(h:l≠[])(x:Int):mn (l++[x])=min (mn l) x:=by
 cases l with
 |nil=>exact absurd rfl h
 |cons a l=>simp [mn,List.foldl_append]
theorem aJP: ∀(l:List Int) (a:Int),a≤l.foldl max a
 | [],a=>Int.le_refl _
 |x::l,a=>Int.le_trans (Int.le_max_left a x) (aJP l (max a x))
theorem aJQ: ∀(l:List Int) (a:Int),l.foldl min a≤a
 | [],a=>Int.le_refl _
 |x::l,a=>Int.le_trans (aJQ l (min a x)) (Int.min_le_left a x)
def Y4(l:List Affine)(p:List Int):List Int:=l.map (fun a=>cJ a p)
def jV(l:Loop)(p:List Int):Int:=mx (Y4 l.lo p)
def nX(l:Loop)(p:List Int):Int:=mn (Y4 l.hi p)
def o9(k:Nat)(p:List Int):Prop:=p.length=k∧k≤4∧ptB (100*40^k) p
theorem K6{k:Nat}(h:k≤4):(0:Int)≤100*40^k∧(100:Int)*40^k≤1000000000:=by
 match k,h with
 |0,_=>decide
 |1,_=>decide
 |2,_=>decide
 |3,_=>decide
 |4,_=>decide
theorem sG{l:List Affine}{d:Int}(h:cK l d=true):1≤l.length∧l.length≤2∧ ∀a∈l,b7 a=true:=by
 simp only [cK,Bool.and_eq_true,decide_eq_true_eq,List.all_eq_true] at h
 refine⟨h.2.1,h.2.2,fun a ha=> ?_⟩
 have:=h.1 a ha
 simp only [bV,Bool.and_eq_true] at this
 exact this.1
theorem aHs{a:Affine}(ha:b7 a=true){k:Nat}{p:List Int}(hp:o9 k p)(hk:k≤3): -(40*(100*40^k))≤cJ a p∧cJ a p≤40*(100*40^k):=by
 obtain⟨h1,h2,h3⟩:=iJ ha
 obtain⟨p1,p2,p3⟩:=hp
 obtain⟨q1,q2⟩:=K6 (k:=k) (by omega)
 have hq:(100:Int)≤100*40^k:=by
  match k,hk with
  |0,_=>decide
  |1,_=>decide
  |2,_=>decide
  |3,_=>decide
 generalize (100*40^k:Int)=M at*
 have h4:=aHZ (M:=M) q1 (cs:=a.coefs) (xs:=p) h3 (fun x hx=>p3 x hx)
 have h6:9*M*(p.length:Int)≤9*M*3:=Int.mul_le_mul_of_nonneg_left (by omega) (by omega)
 simp only [qX] at*
 unfold cJ
 omega
theorem aGO{n:Nat}(hn:5000≤n){a:Affine}(ha:b7 a=true){k:Nat}{p:List Int}(hp:o9 k p):gQ n a p=some (cJ a p):=
 aFv hn ha (by have:=hp.1;have:=hp.2.1;omega) (K6 hp.2.1) hp.2.2
theorem aHh{n:Nat}(hn:5000≤n){a:Affine}(ha:b7 a=true){k:Nat}{p:List Int}(hp:o9 k p):cI n a p=some (cJ a p):=
 aFN hn ha (by have:=hp.1;have:=hp.2.1;omega) (K6 hp.2.1) hp.2.2
theorem lW{l:List Affine}{p:List Int}{i:Nat}{a:Affine}(h:l[i]? =some a):(Y4 l p)[i]? =some (cJ a p):=by
 unfold Y4;rw [List.getElem?_map,h];rfl
theorem G9(l:List Affine)(p:List Int):(Y4 l p).length=l.length:=List.length_map ..
theorem aEy{α:Type}{l:List α}{i:Nat}(h:1≤i)(hl:1≤l.length):l.take i≠[]:=by
 intro e
 have:(l.take i).length=0:=by rw [e];rfl
 rw [List.length_take] at this;omega
theorem aEL{l:List Int}{i:Nat}{x:Int}(h:l[i]? =some x)(hi:1≤i):mx (l.take (i+1))=max (mx (l.take i)) x:=by
 have:=(List.getElem?_eq_some_iff.1 h).1
 rw [List.take_add_one,h]
 exact aJb (aEy hi (by omega)) x
theorem aEN{l:List Int}{i:Nat}{x:Int}(h:l[i]? =some x)(hi:1≤i):mn (l.take (i+1))=min (mn (l.take i)) x:=by
 have:=(List.getElem?_eq_some_iff.1 h).1
 rw [List.take_add_one,h]
 exact aJd (aEy hi (by omega)) x
theorem aDs{l:List Int}{x:Int}(h:l[0]? =some x):mx (l.take 1)=x:=by
 cases l with
 |nil=>simp at h
 |cons a l=>simp at h;subst h;rfl
theorem aDt{l:List Int}{x:Int}(h:l[0]? =some x):mn (l.take 1)=x:=by
 cases l with
 |nil=>simp at h
 |cons a l=>simp at h;subst h;rfl
theorem I9{n:Nat}(hn:5000≤n){l:Loop}{d d':Int}(h1:cK l.lo d=true)(h2:cK l.hi d'=true){k:Nat}{p:List Int}(hp:o9 k p):nA n l p=some (jV l p,nX l p):=by
 obtain⟨a1,a2,a3⟩:=sG h1
 obtain⟨b1,b2,b3⟩:=sG h2
 have g1:=List.getElem?_eq_getElem (show 0<l.lo.length by omega)
 have g2:=List.getElem?_eq_getElem (show 0<l.hi.length by omega)
 refine Ev.eq ?_
 unfold nA
 refine aA (aN (i:=0) g1) (aA (aGO hn (a3 _ (List.mem_of_getElem? g1)) hp) (aA (aN (i:=0) g2) (aA (aGO hn (b3 _ (List.mem_of_getElem? g2)) hp) ?_)))
 refine Ev.loop (fun x:Int×Int=> ∃i:Nat,x.2=i∧1≤i∧i≤l.lo.length∧x.1=mx ((Y4 l.lo p).take i)) (fun x=>l.lo.length-x.2.toNat) ?_ n _ ⟨1,rfl,by omega,by omega,(aDs (lW g1)).symm⟩ (by dsimp only;omega)
 rintro again ⟨x,z⟩ ⟨i,hz,hi1,hi,hx⟩ hr
 dsimp only at hz hx⊢
 subst hz
 refine aG (fun hlt=> ?_) (fun hge=> ?_)
 ·have g:=List.getElem?_eq_getElem (show i<l.lo.length by omega)
  have e:=aEL (lW (p:=p) g) hi1
  refine Ev.jn (fun z=>z=mx ((Y4 l.lo p).take (i+1))) (fun j hj=>aA (aN g) (aA (aGO hn (a3 _ (List.mem_of_getElem? g)) hp) (aG (fun h=>hj _ ?_) (fun h=>hj _ ?_)))) (fun z hz=> ?_)
  ·rw [e,←hx];omega
  ·rw [e,←hx];omega
  ·rw [aK (by omega)]
   exact hr _ ⟨i+1,by dsimp only;omega,by omega,by omega,hz⟩ (by dsimp only;omega)
 ·have hie:i=l.lo.length:=by omega
  have hx':x=jV l p:=by rw [hx,hie,←G9 l.lo p,List.take_length];rfl
  refine Ev.loop (fun x:Int×Int=> ∃i:Nat,x.2=i∧1≤i∧i≤l.hi.length∧x.1=mn ((Y4 l.hi p).take i)) (fun x=>l.hi.length-x.2.toNat) ?_ n _ ⟨1,rfl,by omega,by omega,(aDt (lW g2)).symm⟩ (by dsimp only;omega)
  rintro again2 ⟨y,z⟩ ⟨i,hz,hi1,hi,hy⟩ hr2
  dsimp only at hz hy⊢
  subst hz
  refine aG (fun hlt=> ?_) (fun hge=>Ev.some ?_)
  ·have g:=List.getElem?_eq_getElem (show i<l.hi.length by omega)
   have e:=aEN (lW (p:=p) g) hi1
   refine Ev.jn (fun z=>z=mn ((Y4 l.hi p).take (i+1))) (fun j hj=>aA (aN g) (aA (aGO hn (b3 _ (List.mem_of_getElem? g)) hp) (aG (fun h=>hj _ ?_) (fun h=>hj _ ?_)))) (fun z hz=> ?_)
   ·rw [e,←hy];omega
   ·rw [e,←hy];omega
   ·rw [aK (by omega)]
    exact hr2 _ ⟨i+1,by dsimp only;omega,by omega,by omega,hz⟩ (by dsimp only;omega)
  ·have hie:i=l.hi.length:=by omega
   rw [hx',hy,hie,←G9 l.hi p,List.take_length];rfl
theorem aFL{n:Nat}(hn:5000≤n){l:Loop}{d d':Int}(h1:cK l.lo d=true)(h2:cK l.hi d'=true){k:Nat}{p:List Int}(hp:o9 k p):mB n l p=some (jV l p,nX l p):=by
 obtain⟨a1,a2,a3⟩:=sG h1
 obtain⟨b1,b2,b3⟩:=sG h2
 have g1:=List.getElem?_eq_getElem (show 0<l.lo.length by omega)
 have g2:=List.getElem?_eq_getElem (show 0<l.hi.length by omega)
 refine Ev.eq ?_
 unfold mB
 refine aA (aN (i:=0) g1) (aA (aHh hn (a3 _ (List.mem_of_getElem? g1)) hp) (aA (aN (i:=0) g2) (aA (aHh hn (b3 _ (List.mem_of_getElem? g2)) hp) ?_)))
 refine Ev.loop (fun x:Int×Int=> ∃i:Nat,x.2=i∧i≤l.lo.length∧x.1=mx ((Y4 l.lo p).take (max i 1))) (fun x=>l.lo.length-x.2.toNat) ?_ n _ ⟨0,rfl,by omega,(aDs (lW g1)).symm⟩ (by dsimp only;omega)
 rintro again ⟨x,z⟩ ⟨i,hz,hi,hx⟩ hr
 dsimp only at hz hx⊢
 subst hz
 refine aG (fun hlt=> ?_) (fun hge=> ?_)
 ·have g:=List.getElem?_eq_getElem (show i<l.lo.length by omega)
  refine aA (aN g) (aA (aHh hn (a3 _ (List.mem_of_getElem? g)) hp) ?_)
  rw [aK (by omega)]
  refine hr _ ⟨i+1,by dsimp only;omega,by omega,?_⟩ (by dsimp only;omega)
  dsimp only
  rw [show max (i+1) 1=i+1 by omega]
  cases i with
  |zero=>rw [hx,show max 0 1=1 by rfl,Nat.zero_add,aDs (lW g)];omega
  |succ i=>rw [aEL (lW (p:=p) g) (by omega),hx,show max (i+1) 1=i+1 by omega]
 ·have hie:i=l.lo.length:=by omega
  have hx':x=jV l p:=by rw [hx,hie,Nat.max_eq_left (by omega),←G9 l.lo p,List.take_length];rfl
  refine Ev.loop (fun x:Int×Int=> ∃i:Nat,x.2=i∧i≤l.hi.length∧x.1=mn ((Y4 l.hi p).take (max i 1))) (fun x=>l.hi.length-x.2.toNat) ?_ n _ ⟨0,rfl,by omega,(aDt (lW g2)).symm⟩ (by dsimp only;omega)
  rintro again2 ⟨y,z⟩ ⟨i,hz,hi,hy⟩ hr2
  dsimp only at hz hy⊢
  subst hz
  refine aG (fun hlt=> ?_) (fun hge=>Ev.some ?_)
  ·have g:=List.getElem?_eq_getElem (show i<l.hi.length by omega)
   refine aA (aN g) (aA (aHh hn (b3 _ (List.mem_of_getElem? g)) hp) ?_)
   rw [aK (by omega)]
   refine hr2 _ ⟨i+1,by dsimp only;omega,by omega,?_⟩ (by dsimp only;omega)
   dsimp only
   rw [show max (i+1) 1=i+1 by omega]
   cases i with
   |zero=>rw [hy,show max 0 1=1 by rfl,Nat.zero_add,aDt (lW g)];omega
   |succ i=>rw [aEN (lW (p:=p) g) (by omega),hy,show max (i+1) 1=i+1 by omega]
  ·have hie:i=l.hi.length:=by omega
   rw [hx',hy,hie,Nat.max_eq_left (by omega),←G9 l.hi p,List.take_length];rfl
theorem G3{l:Loop}{d d':Int}(h1:cK l.lo d=true)(h2:cK l.hi d'=true){k:Nat}{p:List Int}(hp:o9 k p)(hk:k≤3){v:Int}(hv:jV l p≤v∧v<nX l p):o9 (k+1) (p++[v]):=by
 obtain⟨a1,a2,a3⟩:=sG h1
 obtain⟨b1,b2,b3⟩:=sG h2
 have e1: -(40*(100*40^k))≤jV l p:=by
  cases hl:l.lo with
  |nil=>rw [hl] at a1;simp at a1
  |cons a as=>
   have:=(aHs (a3 a (by rw [hl];simp)) hp hk).1
   unfold jV Y4;rw [hl]
   exact Int.le_trans this (aJP _ _)
 have e2:nX l p≤40*(100*40^k):=by
  cases hl:l.hi with
  |nil=>rw [hl] at b1;simp at b1
  |cons a as=>
   have:=(aHs (b3 a (by rw [hl];simp)) hp hk).2
   unfold nX Y4;rw [hl]
   exact Int.le_trans (aJQ _ _) this
 obtain⟨p1,p2,p3⟩:=hp
 have e3:(100*40^(k+1):Int)=40*(100*40^k):=by rw [Int.pow_succ];omega
 have q:=(K6 (k:=k) (by omega)).1
 refine⟨by simp [p1],by omega,fun x hx=> ?_⟩
 rw [e3]
 rcases List.mem_append.1 hx with h|h
 ·have:=p3 x h
  simp only [qX] at this⊢
  omega
 ·simp at h;subst h
  simp only [qX]
  omega
def pts:List Loop→List Int→List (List Int)
 | [],p=>[p]
 |l::ls,p=>(iM (jV l p) (nX l p)).flatMap (fun v=>pts ls (p++[v]))
def wk:List Loop→List Int→Int
 | [],_=>1
 |l::ls,p=>1+((iM (jV l p) (nX l p)).map (fun v=>wk ls (p++[v]))).sum
theorem oP{α:Type}(f:α→Int): ∀(l:List α),(∀x∈l,1≤f x)→(l.length:Int)≤(l.map f).sum
 | [],_=>by simp
 |x::l,h=>by
  have h1:=oP f l (fun y hy=>h y (by simp [hy]))
  have h2:=h x (by simp)
  simp only [List.map_cons,List.sum_cons,List.length_cons];omega
theorem aAh: ∀(ls:List Loop) (p:List Int),1≤wk ls p
 | [],p=>Int.le_refl _
 |l::ls,p=>by
  have:=oP (fun v=>wk ls (p++[v])) (iM (jV l p) (nX l p)) (fun v _=>aAh ls _)
  simp only [wk];omega
def Fit(nest:List Loop):Prop:=nest.length≤4∧ ∀(i:Nat) l,nest[i]? =some l→cK l.lo (i:Int)=true∧cK l.hi (i:Int)=true
theorem aAM{nest:List Loop}(h:kK nest=true):Fit nest:=by
 simp only [kK,Bool.and_eq_true,decide_eq_true_eq] at h
 refine⟨h.2,fun i l hl=> ?_⟩
 have:=M9 h.1 hl
 simpa [Bool.and_eq_true] using this
theorem uO{nest:List Loop}{k:Nat}{l:Loop}{ls:List Loop}(h:nest.drop k=l::ls):nest[k]? =some l∧nest.drop (k+1)=ls∧k<nest.length:=by
 have h1:(nest.drop k)[0]? =some l:=by rw [h];rfl
 rw [List.getElem?_drop,Nat.add_zero] at h1
 refine⟨h1,?_,(List.getElem?_eq_some_iff.1 h1).1⟩
 have:(nest.drop k).drop 1=ls:=by rw [h];rfl
 rwa [List.drop_drop] at this
theorem xU{nest:List Loop}{k:Nat}(h:nest.drop k=[])(hk:k≤nest.length):k=nest.length:=by
 have:(nest.drop k).length=0:=by rw [h];rfl
 rw [List.length_drop] at this;omega
theorem fR(p:List Int)(h:p.length≤1000):app [] p=some p:=by rw [bM (by simp;omega)];rfl
theorem aBx(l:List Int)(f:Int→Int)(v:Int):((l++[v]).map f).sum=(l.map f).sum+f v:=by simp
theorem aI1{lo v:Int}(h:lo≤v):((iM lo v).length:Int)=v-lo:=by unfold iM;simp;omega
theorem V7{nest:List Loop}(hf:Fit nest): ∀(ls:List Loop) (n k:Nat) (p:List Int) (most:Int),5000+ls.length≤n→nest.drop k=ls→k≤nest.length→o9 k p→0≤most→most≤1200→
  Ev (s_l2Work n nest p most) (fun r=>(wk ls p≤most→r=wk ls p)∧(most<wk ls p→most<r)∧1≤r∧r≤most+1)
 | [],n,k,p,most,hn,hd,hk,hp,h0,h1=>by
  obtain⟨n,rfl⟩: ∃j,n=j+1:=⟨n-1,by omega⟩
  have hk':=xU hd hk
  have hpl:=hp.1
  unfold s_l2Work
  rw [decide_eq_true (show(p.length:Int)=(nest.length:Int) by omega)]
  exact Ev.some ⟨fun _=>rfl,fun h=>by simp only [wk] at h;omega,by omega,by omega⟩
 |l::ls,n,k,p,most,hn,hd,hk,hp,h0,h1=>by
  obtain⟨n,rfl⟩: ∃j,n=j+1:=⟨n-1,by omega⟩
  obtain⟨d1,d2,d3⟩:=uO hd
  obtain⟨s1,s2⟩:=hf.2 k l d1
  have hpl:=hp.1
  have hk3:k≤3:=by have:=hf.1;omega
  simp only [List.length_cons] at hn
  unfold s_l2Work
  rw [decide_eq_false (show¬(p.length:Int)=(nest.length:Int) by omega)]
  refine bT (aA (x:=l) (by rw [hpl];exact aN d1) (aA (I9 (by omega) s1 s2 hp) ?_))
  let f:Int→Int:=fun v=>wk ls (p++[v])
  have hfp: ∀v,1≤f v:=fun v=>aAh _ _
  have hW:wk (l::ls) p=1+((iM (jV l p) (nX l p)).map f).sum:=rfl
  refine Ev.loop (fun x:Int×Int=>jV l p≤x.2∧(x.2≤nX l p∨x.2=jV l p)∧(1+((iM (jV l p) x.2).map f).sum≤most→x.1=1+((iM (jV l p) x.2).map f).sum)∧(most<1+((iM (jV l p) x.2).map f).sum→most<x.1)∧1≤x.1∧x.1≤most+1)
   (fun x=>(most+1-x.1).toNat) ?_ n _ ⟨Int.le_refl _,.inr rfl,fun _=>by rw [eN (Int.le_refl _)];rfl,fun h=>by rw [eN (Int.le_refl _)] at h;simp at h;dsimp only;omega,by dsimp only;omega,by dsimp only;omega⟩ (by dsimp only;omega)
  rintro again ⟨x,v⟩ ⟨i1,i2,i3,i4,i5,i6⟩ hr
  dsimp only at i1 i2 i3 i4 i5 i6⊢
  refine Ev.jn (fun z=>z=decide (v<nX l p∧x≤most)) (fun j hj=>aG (fun h=>hj _ ?_) (fun h=>hj _ ?_)) (fun z hz=> ?_)
  ·by_cases hx:x≤most
   ·rw [decide_eq_true hx,decide_eq_true ⟨h,hx⟩]
   ·rw [decide_eq_false hx,decide_eq_false (fun h=>hx h.2)]
  ·rw [decide_eq_false (fun h'=>h h'.1)]
  subst hz
  refine aG (fun⟨hv,hx⟩=> ?_) (fun hno=>Ev.some ?_)
  ·have hsum:x=1+((iM (jV l p) v).map f).sum:=i3 (by apply Int.not_lt.1;intro h;have:=i4 h;omega)
   have hp':=G3 s1 s2 hp hk3 ⟨i1,hv⟩
   have e1:wr (most-x)=most-x:=by rw [aK (by omega)]
   rw [e1]
   refine aA (fR p (by omega)) (aA (bM (by simp;omega)) (aI (V7 hf ls n (k+1) (p++[v]) (most-x) (by omega) d2 (by omega) hp' (by omega) (by omega)) (fun r ⟨r1,r2,r3,r4⟩=> ?_)))
   have hvb:v<nX l p:=hv
   have hvr: -1000000000≤v∧v≤1000000000:=by
    have h9:=hp'.2.2 v (by simp)
    have h8:=K6 hp'.2.1
    simp only [qX] at h9;omega
   rw [aK (n:=v+1) (by omega),aK (n:=x+r) (by omega)]
   have hs:1+((iM (jV l p) (v+1)).map f).sum=x+f v:=by rw [iS i1,aBx,hsum];omega
   refine hr _ ⟨by dsimp only;omega,.inl (by dsimp only;omega),?_,?_,by dsimp only;omega,by dsimp only;omega⟩ (by dsimp only;omega)
   ·dsimp only;rw [hs];intro h
    have:r=f v:=r1 (show f v≤most-x by omega)
    omega
   ·dsimp only;rw [hs];intro h
    have:most-x<r:=r2 (show most-x<f v by omega)
    omega
  ·have hmono:1+((iM (jV l p) v).map f).sum≤wk (l::ls) p∧(nX l p≤v→1+((iM (jV l p) v).map f).sum=wk (l::ls) p):=by
    rw [hW]
    by_cases h:v<nX l p
    ·refine⟨?_,fun h'=>by omega⟩
     rw [uE i1 h,List.map_append,List.sum_append,List.map_cons,List.sum_cons]
     have:=oP f (iM (v+1) (nX l p)) (fun y _=>hfp y)
     have:=hfp v
     omega
    ·have:iM (jV l p) v=iM (jV l p) (nX l p):=by
      rcases i2 with h2|h2
      ·rw [show v=nX l p by omega]
      ·subst h2;rw [eN (Int.le_refl _),eN (by omega)]
     rw [this];exact⟨Int.le_refl _,fun _=>rfl⟩
   refine⟨fun h=> ?_,fun h=> ?_,i5,i6⟩
   ·have hx:=i3 (by omega)
    rw [hx]
    apply hmono.2
    apply Int.not_lt.1
    intro hv;exact hno ⟨hv,by omega⟩
   ·apply Int.not_le.1
    intro hx
    have hv:nX l p≤v:=by apply Int.not_lt.1;intro hv;exact hno ⟨hv,hx⟩
    have:=i4 (by rw [hmono.2 hv];exact h)
    omega
theorem sI{nest:List Loop}(hf:Fit nest): ∀(ls:List Loop) (n k:Nat) (p:List Int) (out:List (List Int)),5000+ls.length≤n→nest.drop k=ls→k≤nest.length→o9 k p→wk ls p≤1200→out.length≤120→
  Ev (s_l2Points n out nest p) (fun r=>(out.length+(pts ls p).length≤120→r=out++pts ls p)∧(120<out.length+(pts ls p).length→120<r.length))
 | [],n,k,p,out,hn,hd,hk,hp,h0,h1=>by
  obtain⟨n,rfl⟩: ∃j,n=j+1:=⟨n-1,by omega⟩
  have hk':=xU hd hk
  have hpl:=hp.1
  have hf1:=hf.1
  unfold s_l2Points
  rw [decide_eq_true (show(p.length:Int)=(nest.length:Int) by omega)]
  refine bW (aA (fR p (by omega)) (aA (bM (by simp;omega)) (Ev.some ⟨fun _=>rfl,fun h=>by simp [pts] at h ⊢; omega⟩)))
 |l::ls,n,k,p,out,hn,hd,hk,hp,h0,h1=>by
  obtain⟨n,rfl⟩: ∃j,n=j+1:=⟨n-1,by omega⟩
  obtain⟨d1,d2,d3⟩:=uO hd
  obtain⟨s1,s2⟩:=hf.2 k l d1
  have hpl:=hp.1
  have hf1:=hf.1
  have hk3:k≤3:=by omega
  simp only [List.length_cons] at hn
  unfold s_l2Points
  rw [decide_eq_false (show¬(p.length:Int)=(nest.length:Int) by omega)]
  refine bT (aA (x:=l) (by rw [hpl];exact aN d1) (aA (I9 (by omega) s1 s2 hp) ?_))
  let f:Int→Int:=fun v=>wk ls (p++[v])
  have hfp: ∀v,1≤f v:=fun v=>aAh _ _
  have hW:wk (l::ls) p=1+((iM (jV l p) (nX l p)).map f).sum:=rfl
  let g:Int→List (List Int):=fun v=>pts ls (p++[v])
  have hP:pts (l::ls) p=(iM (jV l p) (nX l p)).flatMap g:=rfl
  have hlen:jV l p≤nX l p→nX l p-jV l p≤1199:=fun hle=>by
   have:=oP f (iM (jV l p) (nX l p)) (fun y _=>hfp y)
   have:=aI1 hle
   omega
  refine Ev.loop (fun x:List (List Int)×Int=>jV l p≤x.2∧(x.2≤nX l p∨x.2=jV l p)∧(out.length+((iM (jV l p) x.2).flatMap g).length≤120→x.1=out++(iM (jV l p) x.2).flatMap g)∧(120<out.length+((iM (jV l p) x.2).flatMap g).length→120<x.1.length))
   (fun x=>(nX l p-x.2).toNat) ?_ n _ ⟨Int.le_refl _,.inr rfl,fun _=>by rw [eN (Int.le_refl _)];simp,fun h=>by rw [eN (Int.le_refl _)] at h;simp at h;omega⟩ (by dsimp only;omega)
  rintro again ⟨x,v⟩ ⟨i1,i2,i3,i4⟩ hr
  dsimp only at i1 i2 i3 i4⊢
  refine Ev.jn (fun z=>z=decide (v<nX l p∧x.length≤120)) (fun j hj=>aG (fun h=>hj _ ?_) (fun h=>hj _ ?_)) (fun z hz=> ?_)
  ·by_cases hx:x.length≤120
   ·rw [decide_eq_true (show(x.length:Int)≤120 by omega),decide_eq_true ⟨h,hx⟩]
   ·rw [decide_eq_false (show¬(x.length:Int)≤120 by omega),decide_eq_false (fun h=>hx h.2)]
  ·rw [decide_eq_false (fun h'=>h h'.1)]
  subst hz
  refine aG (fun⟨hv,hx⟩=> ?_) (fun hno=>Ev.some ?_)
  ·have hxe:x=out++(iM (jV l p) v).flatMap g:=i3 (by apply Nat.not_lt.1;intro h;have:=i4 h;omega)
   have hp':=G3 s1 s2 hp hk3 ⟨i1,hv⟩
   have hwc:f v≤1200:=by
    rw [hW,uE i1 hv,List.map_append,List.sum_append,List.map_cons,List.sum_cons] at h0
    have:=oP f (iM (v+1) (nX l p)) (fun y _=>hfp y)
    have:=oP f (iM (jV l p) v) (fun y _=>hfp y)
    omega
   refine aA (fR p (by omega)) (aA (bM (by simp;omega)) (aI (sI hf ls n (k+1) (p++[v]) x (by omega) d2 (by omega) hp' hwc hx) (fun r ⟨r1,r2⟩=> ?_)))
   have hvr: -1000000000≤v∧v≤1000000000:=by
    have h9:=hp'.2.2 v (by simp)
    have h8:=K6 hp'.2.1
    simp only [qX] at h9;omega
   rw [aK (n:=v+1) (by omega)]
   have hs:(iM (jV l p) (v+1)).flatMap g=(iM (jV l p) v).flatMap g++g v:=by rw [iS i1,List.flatMap_append];simp
   refine hr _ ⟨by dsimp only;omega,.inl (by dsimp only;omega),?_,?_⟩ (by dsimp only;omega)
   ·dsimp only;rw [hs];intro h
    simp only [List.length_append] at h
    have hl:x.length=out.length+((iM (jV l p) v).flatMap g).length:=by rw [hxe,List.length_append]
    rw [r1 (show x.length+(g v).length≤120 by omega),hxe,List.append_assoc]
   ·dsimp only;rw [hs];intro h
    simp only [List.length_append] at h
    have hl:x.length=out.length+((iM (jV l p) v).flatMap g).length:=by rw [hxe,List.length_append]
    exact r2 (show 120<x.length+(g v).length by omega)
  ·have hmono:((iM (jV l p) v).flatMap g).length≤(pts (l::ls) p).length∧(nX l p≤v→(iM (jV l p) v).flatMap g=pts (l::ls) p):=by
    rw [hP]
    by_cases h:v<nX l p
    ·refine⟨?_,fun h'=>by omega⟩
     rw [uE i1 h,List.flatMap_append,List.length_append]
     omega
    ·have:iM (jV l p) v=iM (jV l p) (nX l p):=by
      rcases i2 with h2|h2
      ·rw [show v=nX l p by omega]
      ·subst h2;rw [eN (Int.le_refl _),eN (by omega)]
     rw [this];exact⟨Nat.le_refl _,fun _=>rfl⟩
   refine⟨fun h=> ?_,fun h=> ?_⟩
   ·have hx:=i3 (by omega)
    rw [hx,hmono.2]
    apply Int.not_lt.1
    intro hv;exact hno ⟨hv,by rw [hx,List.length_append];omega⟩
   ·apply Nat.not_le.1
    intro hx
    have hv:nX l p≤v:=by apply Int.not_lt.1;intro hv;exact hno ⟨hv,hx⟩
    have:=i4 (by rw [hmono.2 hv];exact h)
    omega
theorem X6{nest:List Loop}(hf:Fit nest): ∀(ls:List Loop) (n k:Nat) (p:List Int) (st:Int) (out:List (List Int)),5000+ls.length≤n→nest.drop k=ls→k≤nest.length→o9 k p→0≤st→st≤1199→out.length≤120→
  Ev (i_walking_walk n ⟨nest,st,out⟩ p) (fun r=>(st+wk ls p≤1200∧out.length+(pts ls p).length≤120→r=(true,⟨nest,st+wk ls p-1,out++pts ls p⟩))∧(¬(st+wk ls p≤1200∧out.length+(pts ls p).length≤120)→r.1=false))
 | [],n,k,p,st,out,hn,hd,hk,hp,h0,h1,h2=>by
  obtain⟨n,rfl⟩: ∃j,n=j+1:=⟨n-1,by omega⟩
  have hk':=xU hd hk
  have hpl:=hp.1
  have hf1:=hf.1
  unfold i_walking_walk
  dsimp only
  rw [decide_eq_true (show(p.length:Int)=(nest.length:Int) by omega)]
  have hc:m_ownClone p=some p:=by unfold m_ownClone;rw [if_pos (by omega)]
  refine bW (aA hc (aA (bM (by simp;omega)) (Ev.some ⟨fun h=> ?_,fun h=> ?_⟩)))
  ·simp only [wk,pts,List.length_singleton] at h⊢
   rw [decide_eq_true (by simp;omega),show st+1-1=st by omega]
  ·simp only [wk,pts,List.length_singleton] at h⊢
   exact decide_eq_false (by simp;omega)
 |l::ls,n,k,p,st,out,hn,hd,hk,hp,h0,h1,h2=>by
  obtain⟨n,rfl⟩: ∃j,n=j+1:=⟨n-1,by omega⟩
  obtain⟨d1,d2,d3⟩:=uO hd
  obtain⟨s1,s2⟩:=hf.2 k l d1
  have hpl:=hp.1
  have hf1:=hf.1
  have hk3:k≤3:=by omega
  simp only [List.length_cons] at hn
  unfold i_walking_walk
  dsimp only
  rw [decide_eq_false (show¬(p.length:Int)=(nest.length:Int) by omega)]
  refine bT (aA (x:=l) (by rw [hpl];exact aN d1) (aA (aFL (by omega) s1 s2 hp) ?_))
  let f:Int→Int:=fun v=>wk ls (p++[v])
  have hfp: ∀v,1≤f v:=fun v=>aAh _ _
  have hW:wk (l::ls) p=1+((iM (jV l p) (nX l p)).map f).sum:=rfl
  let g:Int→List (List Int):=fun v=>pts ls (p++[v])
  have hP:pts (l::ls) p=(iM (jV l p) (nX l p)).flatMap g:=rfl
  refine Ev.loop (fun x:List Loop×Int×List (List Int)×Int=>x.1=nest∧jV l p≤x.2.2.2∧(x.2.2.2≤nX l p∨x.2.2.2=jV l p)∧x.2.1=st+((iM (jV l p) x.2.2.2).map f).sum∧x.2.2.1=out++(iM (jV l p) x.2.2.2).flatMap g∧0≤x.2.1∧x.2.1≤1199∧x.2.2.1.length≤120)
   (fun x=>(1200-x.2.1).toNat) ?_ n _ ⟨rfl,Int.le_refl _,.inr rfl,by dsimp only;rw [eN (Int.le_refl _)];simp,by dsimp only;rw [eN (Int.le_refl _)];simp,h0,h1,h2⟩ (by dsimp only;omega)
  rintro again ⟨nst,x,o,v⟩ ⟨i0,i1,i2,i3,i4,i5,i6,i7⟩ hr
  dsimp only at i0 i1 i2 i3 i4 i5 i6 i7⊢
  subst i0
  have hol:o.length=out.length+((iM (jV l p) v).flatMap g).length:=by rw [i4,List.length_append]
  refine aG (fun hv=> ?_) (fun hv=>Ev.some ?_)
  ·have hp':=G3 s1 s2 hp hk3 ⟨i1,hv⟩
   have hrest:wk (l::ls) p≥1+((iM (jV l p) v).map f).sum+f v∧(pts (l::ls) p).length≥((iM (jV l p) v).flatMap g).length+(g v).length:=by
    rw [hW,hP,uE i1 hv,List.map_append,List.sum_append,List.map_cons,List.sum_cons,List.flatMap_append,List.length_append,List.flatMap_cons,List.length_append]
    have:=oP f (iM (v+1) (nX l p)) (fun y _=>hfp y)
    constructor
    ·omega
    ·omega
   have hvr: -1000000000≤v∧v≤1000000000:=by
    have h9:=hp'.2.2 v (by simp)
    have h8:=K6 hp'.2.1
    simp only [qX] at h9;omega
   have e1:wr (x+1)=x+1:=by rw [aK (by omega)]
   have e2:wr (x+1+1)=x+1+1:=by rw [aK (by omega)]
   have e3:wr (v+1)=v+1:=by rw [aK (by omega)]
   rw [e1,e2,e3]
   refine Ev.jn (fun z:List Loop×Int×List (List Int)×Bool=>(z.2.2.2=false→z.1=nst∧x+f v≤1199∧o.length+(g v).length≤120∧z.2.1=x+f v∧z.2.2.1=o++g v)∧(z.2.2.2=true→ ¬(st+wk (l::ls) p≤1200∧out.length+(pts (l::ls) p).length≤120)))
    (fun j hj=>aG (fun h=>hj _ ⟨fun h'=>(by cases h'),fun _=> ?_⟩) (fun h=> ?_)) (fun z hz=> ?_)
   ·have:=hfp v
    omega
   ·have hc:m_ownClone p=some p:=by unfold m_ownClone;rw [if_pos (by omega)]
    refine aA hc (aA (bM (by simp;omega)) (aI (X6 hf ls n (k+1) (p++[v]) (x+1) o (by omega) d2 (by omega) hp' (by omega) (by omega) i7) (fun r ⟨r1,r2⟩=> ?_)))
    by_cases hc:x+1+f v≤1200∧o.length+(g v).length≤120
    ·rw [r1 hc]
     exact hj _ ⟨fun _=>⟨rfl,by omega,hc.2,show x+1+f v-1=x+f v by omega,rfl⟩,fun h=>(by cases h)⟩
    ·have hr1:=r2 hc
     obtain⟨rb,⟨rn,rs,ro⟩⟩:=r
     dsimp only at hr1⊢
     subst hr1
     exact hj _ ⟨fun h=>(by cases h),fun _=>by omega⟩
   ·obtain⟨za,zb,zc,zd⟩:=z
    obtain⟨z2,z3⟩:=hz
    dsimp only at z2 z3⊢
    cases zd with
    |true=>exact Ev.some ⟨fun h=>absurd h (z3 rfl),fun _=>rfl⟩
    |false=>
     obtain⟨rfl,y1,y2,y3,y4⟩:=z2 rfl
     refine hr _ ⟨rfl,by dsimp only;omega,.inl (by dsimp only;omega),?_,?_,by dsimp only;have:=hfp v;omega,by dsimp only;omega,?_⟩ (by dsimp only;have:=hfp v;omega)
     ·dsimp only;rw [iS i1,aBx,y3,i3];omega
     ·dsimp only;rw [y4,i4,iS i1,List.flatMap_append];simp
     ·dsimp only;rw [y4,List.length_append];exact y2
  ·have:iM (jV l p) v=iM (jV l p) (nX l p):=by
    rcases i2 with h2|h2
    ·rw [show v=nX l p by omega]
    ·subst h2;rw [eN (Int.le_refl _),eN (by omega)]
   rw [this] at i3 i4 hol
   rw [←hP] at i4 hol
   refine⟨fun h=> ?_,fun h=> ?_⟩
   ·rw [i4,i3,hW,show st+(1+((iM (jV l p) (nX l p)).map f).sum)-1=st+((iM (jV l p) (nX l p)).map f).sum by omega]
   ·exact absurd ⟨by omega,by omega⟩ h
def NP(nest:List Loop):Option (List (List Int)):=if kK nest=true∧wk nest []≤1200∧(pts nest []).length≤120 then some (pts nest []) else none
def aDT:Option (List (List Int))→List (List Int)×Bool
 |none=>([],false)
 |some l=>(l,true)
theorem pt0:o9 0 []:=⟨rfl,by omega,fun x h=>by cases h⟩
theorem E8{n:Nat}(hn:6000≤n){nest:List Loop}(h:SmN nest):kP n nest=some (aDT (NP nest)):=by
 refine Ev.eq ?_
 unfold kP
 refine aA (N5 (by omega) h) ?_
 unfold NP
 cases hv:kK nest with
 |false=>exact Ev.some (by simp [aDT])
 |true=>
  have hf:=aAM hv
  refine aI (X6 hf nest n 0 [] 0 [] (by have:=hf.1;omega) rfl (by omega) pt0 (by omega) (by omega) (by simp)) (fun r ⟨r1,r2⟩=> ?_)
  by_cases hc:(0:Int)+wk nest []≤1200∧([]:List (List Int)).length+(pts nest []).length≤120
  ·rw [r1 hc,if_pos ⟨rfl,by omega,by simpa using hc.2⟩]
   exact Ev.some (by simp [aDT])
  ·rw [r2 hc,if_neg (fun h=>hc ⟨by omega,by simpa using h.2.2⟩)]
   exact Ev.some rfl
theorem E4{n:Nat}(hn:6000≤n){nest:List Loop}(h:SmN nest):kF n nest=some (aDT (NP nest)):=by
 refine Ev.eq ?_
 unfold kF
 refine Ev.jn (fun z=>z= !(kK nest&&decide (wk nest []≤1200))) (fun j hj=>aA (J5 (by omega) h) ?_) (fun z hz=> ?_)
 ·cases hv:kK nest with
  |false=>exact hj _ (by rw [hv];rfl)
  |true=>
   have hf:=aAM hv
   refine aI (V7 hf nest n 0 [] 1200 (by have:=hf.1;omega) rfl (by omega) pt0 (by omega) (by omega)) (fun r ⟨r1,r2,r3,r4⟩=>hj _ ?_)
   rw [hv,Bool.true_and]
   by_cases hw:wk nest []≤1200
   ·rw [decide_eq_true hw,decide_eq_false (by rw [r1 hw];omega)];rfl
   ·rw [decide_eq_false hw,decide_eq_true (r2 (by omega))];rfl
 ·subst hz
  unfold NP
  cases hv:kK nest with
  |false=>exact Ev.some (by simp [aDT])
  |true=>
   have hf:=aAM hv
   by_cases hw:wk nest []≤1200
   ·rw [decide_eq_true hw]
    refine aI (sI hf nest n 0 [] [] (by have:=hf.1;omega) rfl (by omega) pt0 hw (by simp)) (fun r ⟨r1,r2⟩=> ?_)
    by_cases hl:(pts nest []).length≤120
    ·rw [r1 (by simpa using hl),if_pos ⟨rfl,hw,hl⟩]
     refine aG (fun h=>absurd h (by simp;omega)) (fun _=>Ev.some (by simp [aDT]))
    ·have:=r2 (by simp;omega)
     rw [if_neg (fun h=>hl h.2.2)]
     exact aG (fun _=>Ev.some rfl) (fun h=>absurd h (by omega))
   ·rw [decide_eq_false hw,if_neg (fun h=>hw h.2.1)]
    exact Ev.some rfl
def nQ(s:List UInt8):Bool:=match s with
 | [b]=>decide (65≤b.toNat∧b.toNat≤68)
 |_=>false
theorem vV{s:List UInt8}(h:s.length≠1):nQ s=false:=by
 match s,h with
 | [],_=>rfl
 | [b],h=>exact absurd rfl h
 |_::_::_,_=>rfl
theorem aKA{s:List UInt8}(h:s.length=1): ∃b,s=[b]:=by
 match s,h with
 | [b],_=>exact⟨b,rfl⟩
theorem aGt(b:UInt8)(k:Nat)(hk:k<256):(b=UInt8.ofNat k)↔b.toNat=k:=by
 constructor
 ·intro h;rw [h];simp;omega
 ·intro h;rw [←h];simp
theorem T7(b:UInt8):Lib.contains [65,66,67,68] [b]=decide (65≤b.toNat∧b.toNat≤68):=by
 have e1:(b=65)↔b.toNat=65:=aGt b 65 (by omega)
 have e2:(b=66)↔b.toNat=66:=aGt b 66 (by omega)
 have e3:(b=67)↔b.toNat=67:=aGt b 67 (by omega)
 have e4:(b=68)↔b.toNat=68:=aGt b 68 (by omega)
 by_cases h1:b=65
 ·subst h1;decide
 by_cases h2:b=66
 ·subst h2;decide
 by_cases h3:b=67
 ·subst h3;decide
 by_cases h4:b=68
 ·subst h4;decide
 rw [e1] at h1;rw [e2] at h2;rw [e3] at h3;rw [e4] at h4
 rw [decide_eq_false (by omega)]
 rw [←e1] at h1;rw [←e2] at h2;rw [←e3] at h3;rw [←e4] at h4
 simp [Lib.contains,Lib.index,h1,h2,h3,h4]
theorem xP(n:Nat)(s:List UInt8):nF n s=some (nQ s):=by
 unfold nF
 by_cases h:s.length=1
 ·obtain⟨b,rfl⟩:=aKA h
  simp only [jn,m_contains]
  rw [if_pos (by simp),T7]
  rfl
 ·rw [decide_eq_false (show¬(s.length:Int)=1 by omega),vV h];rfl
theorem M1(b:UInt8):Op.bytesLess [b] [65]=decide (b.toNat<65):=by
 simp [Op.bytesLess,UInt8.lt_iff_toNat_lt]
theorem M0(b:UInt8):(Op.bytesLess [b] [68]||[b]==[68])=decide (b.toNat≤68):=by
 have e:(b=68)↔b.toNat=68:=aGt b 68 (by omega)
 by_cases h:b=68
 ·subst h;decide
 ·have h':b.toNat≠68:=fun e'=>h (e.2 e')
  have:([b]==[(68:UInt8)])=false:=by simp [h]
  rw [this,Bool.or_false]
  simp only [Op.bytesLess,Bool.and_false,Bool.or_false,UInt8.lt_iff_toNat_lt]
  apply decide_eq_decide.2
  show b.toNat<68↔_
  omega
def gM(a:Access)(d:Int):Bool:=a.subs.all (fun x=>bV x d)&&(nQ a.array&&decide (1≤a.subs.length∧a.subs.length≤2))
theorem aFP{n:Nat}(hn:5000≤n){a:Affine}(ha:SmA a)(d:Int):iG n a d=some (!bV a d):=N3 hn ha d
theorem vC{n:Nat}(hn:5000≤n){a:Access}(ha:G0 a.subs)(d:Int):lN n a d=some (gM a d):=by
 obtain⟨h0,h1⟩:=ha
 unfold lN
 rw [xP,qY]
 have hc:=mG (n:=n) (f:=fun q0=>iG n q0 d) (p:=fun a=> !bV a d) (l:=a.subs) (fun x hx=>aFP hn (h1 x hx) d) (by omega) (by omega)
 simp only [jn,Option.bind]
 rw [hc]
 unfold gM
 have e:(a.subs.any fun a=> !bV a d)= !(a.subs.all fun a=>bV a d):=by
  rw [List.all_eq_not_any_not];simp
 rw [e]
 cases nQ a.array<;>cases decide (1≤a.subs.length∧a.subs.length≤2)<;>simp
theorem u6{n:Nat}(hn:5000≤n){a:Access}(ha:G0 a.subs)(d:Int):lD n a d=some (gM a d):=by
 obtain⟨h0,h1⟩:=ha
 refine Ev.eq ?_
 unfold lD
 refine m5 (l:=a.subs) (p:=fun _ a=>bV a d) (by omega) (by omega) (fun again i x hx hgo hno=> ?_) (fun again hall=> ?_) (fun⟨i,x,hx,hp⟩=> ?_)
 ·have hi:=(List.getElem?_eq_some_iff.1 hx).1
  have hm:=h1 x (List.mem_of_getElem? hx)
  rw [decide_eq_true (show(i:Int)<(a.subs.length:Int) by omega)]
  refine bW (Ev.jn (fun z=>z= !bV x d) (fun j hj=>aA (aN hx) (aA (lG hn x hm) ?_)) (fun z hz=> ?_))
  ·cases ha:b7 x with
   |false=>exact hj _ (by unfold bV;rw [ha];rfl)
   |true=>exact aA (vQ hn hm) (hj _ (by unfold bV;rw [ha,ltd];simp))
  ·subst hz
   cases hb:bV x d with
   |true=>show Ev (again _) _;rw [aK (by omega)];exact hgo hb
   |false=>exact Ev.some (hno hb)
 ·rw [decide_eq_false (show¬(a.subs.length:Int)<(a.subs.length:Int) by omega)]
  have e:a.subs.all (fun a=>bV a d)=true:=List.all_eq_true.2 (fun c hc=>by obtain⟨i,hi⟩:=List.getElem?_of_mem hc;exact hall i c hi)
  unfold gM
  rw [e,Bool.true_and]
  refine bT (Ev.jn (fun z=>z=(nQ a.array&&decide (1≤a.subs.length∧a.subs.length≤2))) (fun j hj=> ?_) (fun z hz=>Ev.some hz))
  by_cases h:a.array.length=1
  ·rw [decide_eq_true (show(a.array.length:Int)=1 by omega)]
   obtain⟨b,hb⟩:=aKA h
   rw [hb] at hj⊢
   rw [M1,M0]
   show Ev (bif _ then _ else _) _
   simp only [nQ] at hj⊢
   by_cases g1:b.toNat<65
   ·rw [decide_eq_true g1]
    exact hj _ (by rw [decide_eq_false (show¬(65≤b.toNat∧b.toNat≤68) by omega)];rfl)
   ·rw [decide_eq_false g1]
    by_cases g2:b.toNat≤68
    ·rw [decide_eq_true g2]
     rw [decide_eq_true (show 65≤b.toNat∧b.toNat≤68 by omega)] at hj⊢
     refine aG (fun h=>hj _ ?_) (fun h=>hj _ ?_)
     ·by_cases h2:a.subs.length≤2
      ·rw [decide_eq_true (show(a.subs.length:Int)≤2 by omega),decide_eq_true (by omega)];rfl
      ·rw [decide_eq_false (show¬(a.subs.length:Int)≤2 by omega),decide_eq_false (by omega)];rfl
     ·rw [decide_eq_false (by omega)];rfl
    ·rw [decide_eq_false g2]
     exact hj _ (by rw [decide_eq_false (show¬(65≤b.toNat∧b.toNat≤68) by omega)];rfl)
  ·rw [decide_eq_false (show¬(a.array.length:Int)=1 by omega)]
   exact hj _ (by rw [vV h];rfl)
 ·unfold gM
  rw [List.all_eq_false.2 ⟨x,List.mem_of_getElem? hx,by rw [hp];simp⟩];rfl
def iV(a:Affine):Bool:=decide (a.coefs.length=0)&&decide (a.const=0)
def mI(a:Access):Bool:=decide (a.array=[])&&decide (a.subs.length=0)
theorem aJg(k:Nat):decide ((k:Int)=0)=decide (k=0):=decide_eq_decide.2 (by omega)
theorem T3(n:Nat)(a:Affine):lL n a=some (iV a):=by
 unfold lL iV;rw [aJg];cases decide (a.coefs.length=0)<;>rfl
theorem aBC(n:Nat)(a:Affine):nL n a=some (iV a):=by
 unfold nL iV;rw [aJg];cases decide (a.coefs.length=0)<;>rfl
theorem T4(n:Nat)(a:Access):gY n a=some (mI a):=by
 unfold gY mI;rw [aJg];cases decide (a.array=[])<;>rfl
theorem aAo(n:Nat)(a:Access):lC n a=some (mI a):=by
 unfold lC mI;rw [aJg];cases decide (a.array=[])<;>rfl
def fP(e:Expr)(d:Int):Bool:=
 if e.kind=2 then decide (e.num=0)&&(mI e.read&&bV e.index d)
 else if e.kind=3 then decide (e.num=0)&&(iV e.index&&gM e.read d)
 else if e.kind=1 then decide (0≤e.num∧e.num≤99)&&(iV e.index&&mI e.read)
 else decide (e.num=0)&&(iV e.index&&mI e.read)
def gU(k:Int):Int:=if k=1∨k=2∨k=3 then 0 else if k=4∨k=5∨k=6 then 2 else-1
theorem aBD(n:Nat)(k:Int):sV n k=some (gU k):=by
 unfold sV gU
 by_cases h1:k=1
 ·subst h1;rfl
 by_cases h2:k=2
 ·subst h2;rfl
 by_cases h3:k=3
 ·subst h3;rfl
 by_cases h4:k=4
 ·subst h4;rfl
 by_cases h5:k=5
 ·subst h5;rfl
 by_cases h6:k=6
 ·subst h6;rfl
 simp [jn,h1,h2,h3,h4,h5,h6]
theorem aC6{n:Nat}(hn:5000≤n){e:Expr}(h1:SmA e.index)(h2:G0 e.read.subs)(d:Int):w4 n e d=some (fP e d):=by
 unfold w4 fP
 rw [aAo,aBC,lG hn _ h1,vQ hn h1,u6 hn h2]
 by_cases k2:e.kind=2
 ·rw [if_pos k2,decide_eq_true k2]
  simp only [jn,Option.bind,cond_true,bV]
  cases decide (e.num=0)<;>cases mI e.read<;>cases b7 e.index<;>simp
 ·rw [if_neg k2,decide_eq_false k2]
  by_cases k3:e.kind=3
  ·rw [if_pos k3,decide_eq_true k3]
   simp only [jn,Option.bind,cond_true,cond_false]
   cases decide (e.num=0)<;>cases iV e.index<;>simp
  ·rw [if_neg k3,decide_eq_false k3]
   by_cases k1:e.kind=1
   ·rw [if_pos k1,decide_eq_true k1]
    simp only [jn,Option.bind,cond_true,cond_false]
    by_cases g1:0≤e.num<;>by_cases g2:e.num≤99<;>cases iV e.index<;>simp [g1,g2]
   ·rw [if_neg k1,decide_eq_false k1]
    simp only [jn,Option.bind,cond_false]
    cases decide (e.num=0)<;>cases iV e.index<;>simp
end Go.Lift
