/- Plain facts on sums of products, on ranges, on the points of a nest. -/
import Derived.Test.YtiplelpjhgnmoaaGreatHLawDraw
set_option maxRecDepth 100000
set_option linter.unusedVariables false
namespace Go.Lift
open Go
def tD:List Int→List Int→Int
 |c::cs,x::xs=>c*x+tD cs xs
 |_,_=>0
def pI(m:Int)(x:Int):Prop:= -m≤x∧x≤m
theorem aE9{a b c x:Int}(ha:0≤a)(hb:0≤b)(h1:pI a c)(h2:pI b x):pI (a*b) (c*x):=by
 obtain⟨p1,p2⟩:=h1
 obtain⟨q1,q2⟩:=h2
 constructor
 ·have h:=Int.mul_nonneg (show 0≤a+c by omega) (show 0≤b+x by omega)
  have k:=Int.mul_nonneg (show 0≤a-c by omega) (show 0≤b-x by omega)
  have e1:(a+c)*(b+x)=a*b+a*x+c*b+c*x:=by rw [Int.add_mul,Int.mul_add,Int.mul_add];omega
  have e2:(a-c)*(b-x)=a*b-a*x-c*b+c*x:=by rw [Int.sub_mul,Int.mul_sub,Int.mul_sub];omega
  rw [e1] at h;rw [e2] at k;omega
 ·have h:=Int.mul_nonneg (show 0≤a+c by omega) (show 0≤b-x by omega)
  have k:=Int.mul_nonneg (show 0≤a-c by omega) (show 0≤b+x by omega)
  have e1:(a+c)*(b-x)=a*b-a*x+c*b-c*x:=by rw [Int.add_mul,Int.mul_sub,Int.mul_sub];omega
  have e2:(a-c)*(b+x)=a*b+a*x-c*b-c*x:=by rw [Int.sub_mul,Int.mul_add,Int.mul_add];omega
  rw [e1] at h;rw [e2] at k;omega
theorem aBk(cs:List Int):tD cs []=0:=by cases cs<;>rfl
theorem aCC: ∀{cs xs:List Int} {c x:Int},cs[xs.length]? =some c→tD cs (xs++[x])=tD cs xs+c*x
 | [],xs,c,x,h=>by simp at h
 |d::cs,[],c,x,h=>by simp at h;subst h;simp [tD,aBk]
 |d::cs,y::xs,c,x,h=>by
  have h:cs[xs.length]? =some c:=by simpa using h
  simp only [List.cons_append,tD];rw [aCC h];omega
theorem aCB{cs xs:List Int}{i:Nat}{c x:Int}(hc:cs[i]? =some c)(hx:xs[i]? =some x):tD cs (xs.take (i+1))=tD cs (xs.take i)+c*x:=by
 have hi:=(List.getElem?_eq_some_iff.1 hx).1
 rw [List.take_add_one,hx]
 exact aCC (by simpa [Nat.min_eq_left (Nat.le_of_lt hi)] using hc)
theorem aIu{M:Int}(hM:0≤M): ∀{cs xs:List Int},(∀c∈cs,pI 9 c)→(∀x∈xs,pI M x)→pI (9*M*xs.length) (tD cs xs)
 | [],xs,_,_=>by
  have:0≤9*M*(xs.length:Int):=Int.mul_nonneg (by omega) (by omega)
  simp only [tD,pI];omega
 |d::cs,[],_,_=>by simp [tD,pI]
 |d::cs,y::xs,hc,hx=>by
  have h1:=aIu hM (cs:=cs) (xs:=xs) (fun c h=>hc c (by simp [h])) (fun x h=>hx x (by simp [h]))
  have h2:=aE9 (by omega) hM (hc d (by simp)) (hx y (by simp))
  have e:9*M*((y::xs).length:Int)=9*M*(xs.length:Int)+9*M:=by simp [Int.mul_add]
  rw [e]
  simp only [tD,pI] at*
  omega
def lQ(lo hi:Int):List Int:=(List.range (hi-lo).toNat).map (fun(i:Nat)=>lo+(i:Int))
theorem aJz{lo hi v:Int}:v∈lQ lo hi↔lo≤v∧v<hi:=by
 simp only [lQ,List.mem_map,List.mem_range]
 constructor
 ·rintro⟨i,hi,rfl⟩;omega
 ·intro h;exact⟨(v-lo).toNat,by omega,by omega⟩
theorem iT{lo hi:Int}(h:hi≤lo):lQ lo hi=[]:=by
 unfold lQ;rw [show(hi-lo).toNat=0 by omega];rfl
theorem oZ{lo hi:Int}(h:lo≤hi):lQ lo (hi+1)=lQ lo hi++[hi]:=by
 unfold lQ
 rw [show(hi+1-lo).toNat=(hi-lo).toNat+1 by omega,List.range_succ,List.map_append]
 simp;omega
theorem uZ{lo v hi:Int}(h1:lo≤v)(h2:v<hi):lQ lo hi=lQ lo v++v::lQ (v+1) hi:=by
 obtain⟨k,hk⟩: ∃k:Nat,hi=v+1+k:=⟨(hi-v-1).toNat,by omega⟩
 subst hk
 clear h2
 induction k with
 |zero=>
  rw [show v+1+((0:Nat):Int)=v+1 by omega,oZ h1,iT (Int.le_refl _)]
 |succ k ih=>
  rw [show v+1+((k+1:Nat):Int)=v+1+(k:Int)+1 by omega,oZ (by omega),ih,oZ (by omega)]
  simp
theorem I8{α:Type}{f:α→Option Bool}{p:α→Bool}{l:List α}(hf: ∀x∈l,f x=some (p x)){n:Nat}(hl:l.length<n)(hl2:l.length≤1000000):
  ∃r:Int,aM (fun again2 (x1:Int)=>bif decide (x1<(l.length:Int)) then(Option.bind (ix l x1) fun x3=>Option.bind (f x3) fun x4=>bif x4 then(some x1) else(again2 (wr (x1+1)))) else(some (-1))) n 0=some r∧decide (0≤r)=l.any p:=by
 suffices h:Ev (aM (fun again2 (x1:Int)=>bif decide (x1<(l.length:Int)) then(Option.bind (ix l x1) fun x3=>Option.bind (f x3) fun x4=>bif x4 then(some x1) else(again2 (wr (x1+1)))) else(some (-1))) n 0) (fun r=>decide (0≤r)=l.any p) by exact h
 refine Ev.loop (fun x:Int=>0≤x∧x≤l.length∧(l.take x.toNat).any p=false) (fun x:Int=>l.length-x.toNat) ?_ n 0 ⟨by omega,by omega,by simp⟩ (by simp;omega)
 rintro again x ⟨h0,h1,h2⟩ hr
 refine aH (fun hlt=> ?_) (fun hge=> ?_)
 ·obtain⟨y,hy,hy2⟩:=jF h0 hlt
  have hm:=List.mem_of_getElem? hy2
  refine aB hy (aB (hf y hm) (Ev.cond (fun ht=>Ev.some ?_) (fun hfl=> ?_)))
  ·rw [show l.any p=true from List.any_eq_true.2 ⟨y,hm,ht⟩];simp [h0]
  ·rw [aP (by omega)]
   refine hr _ ⟨by omega,by omega,?_⟩ (by omega)
   rw [show(x+1).toNat=x.toNat+1 by omega,List.take_add_one,hy2]
   simp [h2,hfl]
 ·refine Ev.some ?_
  have hx:x.toNat=l.length:=by omega
  rw [hx,List.take_length] at h2
  rw [h2];simp
theorem sG{f:Int→Option Bool}{p:Int→Bool}{l:List Int}(hf: ∀x∈l,f x=some (p x)){n:Nat}(hl:l.length<n)(hl2:l.length≤1000000):bT n l f=some (l.any p):=by
 obtain⟨r,h1,h2⟩:=I8 hf hl hl2
 unfold bT eU
 rw [h1,←h2];rfl
theorem sX{f:Affine→Option Bool}{p:Affine→Bool}{l:List Affine}(hf: ∀x∈l,f x=some (p x)){n:Nat}(hl:l.length<n)(hl2:l.length≤1000000):cO n l f=some (l.any p):=by
 obtain⟨r,h1,h2⟩:=I8 hf hl hl2
 unfold cO gD
 rw [h1,←h2];rfl
theorem W3{f:Stmt→Option Bool}{p:Stmt→Bool}{l:List Stmt}(hf: ∀x∈l,f x=some (p x)){n:Nat}(hl:l.length<n)(hl2:l.length≤1000000):d5 n l f=some (l.any p):=by
 obtain⟨r,h1,h2⟩:=I8 hf hl hl2
 unfold d5 iU
 rw [h1,←h2];rfl
theorem G5{f:Access→Option Bool}{p:Access→Bool}{l:List Access}(hf: ∀x∈l,f x=some (p x)){n:Nat}(hl:l.length<n)(hl2:l.length≤1000000):dK n l f=some (l.any p):=by
 obtain⟨r,h1,h2⟩:=I8 hf hl hl2
 unfold dK gE
 rw [h1,←h2];rfl
theorem nW{α:Type}{l:List α}{p:Nat→α→Bool}{Q:Bool→Prop}{body:(Int→Option Bool)→Int→Option Bool}{n:Nat}(hl:l.length<n)(hl2:l.length≤1000000)
  (hstep: ∀again (i:Nat) x,l[i]? =some x→(p i x=true→Ev (again ((i:Int)+1)) Q)→(p i x=false→Q false)→Ev (body again (i:Int)) Q)
  (hend: ∀again,(∀(i:Nat) x,l[i]? =some x→p i x=true)→Ev (body again (l.length:Int)) Q) (hbad:(∃(i:Nat) (x:α),l[i]? =some x∧p i x=false)→Q false):Ev (aM body n 0) Q:=by
 refine Ev.loop (fun x:Int=> ∃i:Nat,x=i∧i≤l.length∧ ∀(j:Nat) y,j<i→l[j]? =some y→p j y=true) (fun x:Int=>l.length-x.toNat) ?_ n 0 ⟨0,rfl,by omega,fun j y h=>by omega⟩ (by simp;omega)
 rintro again x ⟨i,rfl,hi,ha⟩ hr
 by_cases hlt:i<l.length
 ·have hx:=List.getElem?_eq_getElem hlt
  refine hstep again i _ hx (fun hp=>hr _ ⟨i+1,by omega,by omega,fun j y hj hy=> ?_⟩ (by omega)) (fun hp=>hbad ⟨i,_,hx,hp⟩)
  by_cases hji:j=i
  ·subst hji;rw [hx] at hy;cases hy;exact hp
  ·exact ha j y (by omega) hy
 ·have hil:i=l.length:=by omega
  subst hil
  exact hend again (fun j y hy=>ha j y (List.getElem?_eq_some_iff.1 hy).1 hy)
def bL(a:Affine):Bool:=decide (a.coefs.length=4)&&(decide (-99≤a.const∧a.const≤99)&&a.coefs.all (fun c=>decide (-9≤c∧c≤9)))
theorem jD{a:Affine}(h:bL a=true):a.coefs.length=4∧pI 99 a.const∧ ∀c∈a.coefs,pI 9 c:=by
 simp only [bL,Bool.and_eq_true,decide_eq_true_eq,List.all_eq_true] at h
 exact⟨h.1,h.2.1,h.2.2⟩
theorem eH(n:Nat)(x a b:Int):cH n x a b=some (decide (a≤x∧x≤b)):=by
 unfold cH
 by_cases h1:a≤x<;>by_cases h2:x≤b<;>simp [jn,h1,h2]
theorem q5{n:Nat}(hn:5000≤n)(a:Affine)(ha:a.coefs.length≤1000):fL n a=some (bL a):=by
 have hf: ∀x∈a.coefs,eZ n x=some (!decide (-9≤x∧x≤9)):=fun x _=>by unfold eZ;rw [eH];rfl
 have hc:=sG (n:=n) hf (by omega) (by omega)
 unfold fL vD
 rw [eH]
 simp only [jn,Option.bind]
 rw [hc]
 unfold bL
 have e:(a.coefs.any fun x=> !decide (-9≤x∧x≤9))= !(a.coefs.all fun c=>decide (-9≤c∧c≤9)):=by
  rw [List.all_eq_not_any_not];simp
 rw [e]
 by_cases h1:a.coefs.length=4
 ·rw [decide_eq_true (show(a.coefs.length:Int)=4 by omega),decide_eq_true h1]
  generalize decide (-99≤a.const∧a.const≤99)=b
  cases b<;>simp
 ·rw [decide_eq_false (show¬(a.coefs.length:Int)=4 by omega),decide_eq_false h1];rfl
theorem pM(n:Nat)(x m:Int)(hm:0≤m∧m≤1000000000):iD n x m=some (decide (-m≤x∧x≤m)):=by
 unfold iD
 rw [aP (by omega)]
 by_cases h1: -m≤x<;>by_cases h2:x≤m
 ·simp [jn,h1,h2]
 ·simp [jn,h1,h2]
 ·simp [jn,h1,h2]
 ·simp [jn,h1,h2]
theorem lZ{n:Nat}(hn:5000≤n)(a:Affine)(ha:a.coefs.length≤1000):d8 n a=some (bL a):=by
 refine Ev.eq ?_
 unfold d8
 refine nW (l:=a.coefs) (p:=fun _ c=>decide (-9≤c∧c≤9)) (by omega) (by omega) (fun again i x hx hgo hno=> ?_) (fun again hall=> ?_) (fun⟨i,x,hx,hp⟩=> ?_)
 ·rw [decide_eq_true (show(i:Int)<(a.coefs.length:Int) by have:=(List.getElem?_eq_some_iff.1 hx).1;omega)]
  refine aB (aQ hx) (aB (pM n x 9 (by omega)) ?_)
  have hi:=(List.getElem?_eq_some_iff.1 hx).1
  cases hp:decide (-9≤x∧x≤9) with
  |true=>show Ev (again _) _;rw [aP (by omega)];exact hgo hp
  |false=>exact Ev.some (hno hp)
 ·rw [decide_eq_false (show¬(a.coefs.length:Int)<(a.coefs.length:Int) by omega)]
  have e:a.coefs.all (fun c=>decide (-9≤c∧c≤9))=true:=List.all_eq_true.2 (fun c hc=>by obtain⟨i,hi⟩:=List.getElem?_of_mem hc;exact hall i c hi)
  refine Ev.cond (fun h=>(by cases h)) (fun _=> ?_)
  unfold bL
  rw [e]
  refine Ev.jn (fun z:Bool=>z=(decide (a.coefs.length=4)&&(decide (-99≤a.const∧a.const≤99)&&true))) (fun j hj=> ?_) (fun z hz=>Ev.some hz)
  refine aH (fun h=>aB (pM n a.const 99 (by omega)) (hj _ ?_)) (fun h=>hj _ ?_)
  ·rw [decide_eq_true (show a.coefs.length=4 by omega)];simp
  ·rw [decide_eq_false (show¬a.coefs.length=4 by omega)];rfl
 ·unfold bL
  have e:a.coefs.all (fun c=>decide (-9≤c∧c≤9))=false:=List.all_eq_false.2 ⟨x,List.mem_of_getElem? hx,by rw [hp];simp⟩
  rw [e];simp
def bV(a:Affine)(p:List Int):Int:=a.const+tD a.coefs p
def ptB(M:Int)(p:List Int):Prop:= ∀x∈p,pI M x
theorem vG{a:Affine}(ha:bL a=true){p:List Int}(hp:p.length≤4){M:Int}(hM:0≤M∧M≤1000000000)(hB:ptB M p)(i:Nat)(hi:i≤p.length):pI 1000000000000 (a.const+tD a.coefs (p.take i)):=by
 obtain⟨h1,h2,h3⟩:=jD ha
 have h4:=aIu (M:=M) hM.1 (cs:=a.coefs) (xs:=p.take i) h3 (fun x hx=>hB x (List.mem_of_mem_take hx))
 have h5:(p.take i).length≤4:=by simp;omega
 have h6:9*M*((p.take i).length:Int)≤9*M*4:=Int.mul_le_mul_of_nonneg_left (by omega) (by omega)
 simp only [pI] at*
 omega
theorem aGd{n:Nat}(hn:5000≤n){a:Affine}(ha:bL a=true){p:List Int}(hp:p.length≤4){M:Int}(hM:0≤M∧M≤1000000000)(hB:ptB M p):cQ n a p=some (bV a p):=by
 obtain⟨h1,h2,h3⟩:=jD ha
 refine Ev.eq ?_
 unfold cQ
 refine Ev.loop (fun x:Int×Int=> ∃i:Nat,x.2=i∧i≤p.length∧x.1=a.const+tD a.coefs (p.take i)) (fun x=>p.length-x.2.toNat) ?_ n _ ⟨0,rfl,by omega,by simp [aBk]⟩ (by simp;omega)
 rintro again ⟨x,k⟩ ⟨i,hk,hi,hx⟩ hr
 dsimp only at hk hx⊢
 subst hk
 refine aH (fun hlt=> ?_) (fun hge=>Ev.some ?_)
 ·have hlt:i<p.length:=by omega
  have hp2:=List.getElem?_eq_getElem hlt
  have hc2:=List.getElem?_eq_getElem (show i<a.coefs.length by omega)
  have hd:=aCB hc2 hp2
  have e1:=vG ha hp hM hB i hi
  have e2:=vG ha hp hM hB (i+1) (by omega)
  rw [hd] at e2
  have e3:=aE9 (by omega) hM.1 (h3 _ (List.mem_of_getElem? hc2)) (hB _ (List.mem_of_getElem? hp2))
  refine aB (aQ hp2) (aB (aQ hc2) ?_)
  simp only [pI] at e1 e2 e3
  rw [aP (n:=a.coefs[i]*p[i]) (by omega),aP (by omega),aP (by omega)]
  refine hr _ ⟨i+1,by dsimp only;omega,by omega,?_⟩ (by dsimp only;omega)
  dsimp only
  rw [hd,hx];omega
 ·have:i=p.length:=by omega
  rw [hx,this,List.take_length];rfl
theorem aFT{n:Nat}(hn:5000≤n){a:Affine}(ha:bL a=true){p:List Int}(hp:p.length≤4){M:Int}(hM:0≤M∧M≤1000000000)(hB:ptB M p):iE n a p=some (bV a p):=by
 obtain⟨h1,h2,h3⟩:=jD ha
 refine Ev.eq ?_
 unfold iE
 refine Ev.loop (fun x:Int×Int=> ∃i:Nat,x.2=i∧i≤p.length∧x.1=a.const+tD a.coefs (p.take i)) (fun x=>p.length-x.2.toNat) ?_ n _ ⟨0,rfl,by omega,by simp [aBk]⟩ (by simp;omega)
 rintro again ⟨x,k⟩ ⟨i,hk,hi,hx⟩ hr
 dsimp only at hk hx⊢
 subst hk
 refine Ev.jn (fun z=>z=decide (i<p.length)) (fun j hj=>aH (fun h=>hj _ ?_) (fun h=>hj _ ?_)) (fun z hz=> ?_)
 ·rw [decide_eq_true (show i<p.length by omega),decide_eq_true (show(i:Int)<(a.coefs.length:Int) by omega)]
 ·rw [decide_eq_false (show¬i<p.length by omega)]
 subst hz
 refine aH (fun hlt=> ?_) (fun hge=>Ev.some ?_)
 ·have hp2:=List.getElem?_eq_getElem hlt
  have hc2:=List.getElem?_eq_getElem (show i<a.coefs.length by omega)
  have hd:=aCB hc2 hp2
  have e1:=vG ha hp hM hB i hi
  have e2:=vG ha hp hM hB (i+1) (by omega)
  rw [hd] at e2
  have e3:=aE9 (by omega) hM.1 (h3 _ (List.mem_of_getElem? hc2)) (hB _ (List.mem_of_getElem? hp2))
  refine aB (aQ hc2) (aB (aQ hp2) ?_)
  simp only [pI] at e1 e2 e3
  rw [aP (n:=a.coefs[i]*p[i]) (by omega),aP (by omega),aP (by omega)]
  refine hr _ ⟨i+1,by dsimp only;omega,by omega,?_⟩ (by dsimp only;omega)
  dsimp only
  rw [hd,hx];omega
 ·have:i=p.length:=by omega
  rw [hx,this,List.take_length];rfl
theorem bY{R:Type}{Q:R→Prop}{A B:Option R}(h:Ev A Q):Ev (bif true then A else B) Q:=h
theorem bZ{R:Type}{Q:R→Prop}{A B:Option R}(h:Ev B Q):Ev (bif false then A else B) Q:=h
def iM:List Int→Nat
 | []=>0
 |c::cs=>if iM cs=0 then(if c=0 then 0 else 1) else iM cs+1
theorem E3: ∀(l:List Int) (c:Int),iM (l++[c])=if c=0 then iM l else l.length+1
 | [],c=>by simp [iM]
 |d::l,c=>by
  have ih:=E3 l c
  simp only [List.cons_append,iM,ih]
  by_cases hc:c=0
  ·simp [hc]
  ·simp [hc]
theorem E2{l:List Int}{i:Nat}{c:Int}(h:l[i]? =some c):iM (l.take (i+1))=if c=0 then iM (l.take i) else i+1:=by
 have hi:=(List.getElem?_eq_some_iff.1 h).1
 rw [List.take_add_one,h]
 show iM (l.take i++[c])=_
 rw [E3,List.length_take,Nat.min_eq_left (Nat.le_of_lt hi)]
def SmA(a:Affine):Prop:=a.coefs.length≤1000
def H2(l:List Affine):Prop:=l.length≤1000∧ ∀a∈l,SmA a
theorem wN{n:Nat}(hn:5000≤n){a:Affine}(ha:SmA a):lY n a=some (iM a.coefs:Int):=by
 have ha:a.coefs.length≤1000:=ha
 refine Ev.eq ?_
 unfold lY
 refine Ev.loop (fun x:Int×Int=> ∃i:Nat,x.2=i∧i≤a.coefs.length∧x.1=(iM (a.coefs.take i):Int)) (fun x=>a.coefs.length-x.2.toNat) ?_ n _ ⟨0,rfl,by omega,by simp [iM]⟩ (by simp;omega)
 rintro again ⟨x,k⟩ ⟨i,hk,hi,hx⟩ hr
 dsimp only at hk hx⊢
 subst hk
 refine aH (fun hlt=> ?_) (fun hge=>Ev.some ?_)
 ·have hlt:i<a.coefs.length:=by omega
  have hc:=List.getElem?_eq_getElem hlt
  have hd:=E2 hc
  refine Ev.jn (fun z:Int=>z=(iM (a.coefs.take (i+1)):Int)) (fun j hj=>aB (aQ hc) (dQ (fun h0=>hj _ ?_) (fun h0=>hj _ ?_))) (fun z hz=> ?_)
  ·rw [hd,if_neg h0,aP (by omega)];omega
  ·rw [hd,if_pos h0,hx]
  ·rw [aP (by omega)]
   exact hr _ ⟨i+1,by dsimp only;omega,by omega,hz⟩ (by dsimp only;omega)
 ·have:i=a.coefs.length:=by omega
  rw [hx,this,List.take_length]
theorem O8{n:Nat}(hn:5000≤n){a:Affine}(ha:SmA a):eO n a=some (iM a.coefs:Int):=by
 have ha:a.coefs.length≤1000:=ha
 refine Ev.eq ?_
 unfold eO
 refine Ev.loop (fun x:Int=> ∃i:Nat,x=i∧i≤a.coefs.length∧iM a.coefs=iM (a.coefs.take i)) (fun x=>x.toNat) ?_ n _ ⟨a.coefs.length,rfl,by omega,by rw [List.take_length]⟩ (by simp;omega)
 rintro again x ⟨i,rfl,hi,hx⟩ hr
 cases i with
 |zero=>
  refine Ev.jn (fun z=>z=false) (fun j hj=>aH (fun h=>absurd h (by decide)) (fun h=>hj _ rfl)) (fun z hz=> ?_)
  subst hz
  exact Ev.some (by rw [hx];rfl)
 |succ i=>
  have hlt:i<a.coefs.length:=by omega
  have hc:=List.getElem?_eq_getElem hlt
  have hd:=E2 hc
  have e:wr (((i+1:Nat):Int)-1)=(i:Int):=by rw [aP (by omega)];omega
  rw [e]
  refine Ev.jn (fun z=>z=decide (a.coefs[i]=0)) (fun j hj=>aH (fun h=>aB (aQ hc) (hj _ rfl)) (fun h=>absurd (show(0:Int)<((i+1:Nat):Int) by omega) h)) (fun z hz=> ?_)
  subst hz
  refine aH (fun h0=> ?_) (fun h0=>Ev.some ?_)
  ·exact hr _ ⟨i,rfl,by omega,by rw [hx,hd,if_pos h0]⟩ (by omega)
  ·rw [hx,hd,if_neg h0]
def bX(a:Affine)(d:Int):Bool:=bL a&&decide ((iM a.coefs:Int)≤d)
def cS(l:List Affine)(d:Int):Bool:=l.all (fun a=>bX a d)&&decide (1≤l.length∧l.length≤2)
theorem ltd(a b:Int):decide (a<b)= !decide (b≤a):=by
 by_cases h:a<b
 ·rw [decide_eq_true h,decide_eq_false (by omega)];rfl
 ·rw [decide_eq_false h,decide_eq_true (by omega)];rfl
theorem D3{n:Nat}(hn:5000≤n){l:List Affine}(hl:H2 l)(d:Int):qR n l d=some (cS l d):=by
 obtain⟨h0,h1⟩:=hl
 refine Ev.eq ?_
 unfold qR
 refine nW (l:=l) (p:=fun _ a=>bX a d) (by omega) (by omega) (fun again i x hx hgo hno=> ?_) (fun again hall=> ?_) (fun⟨i,x,hx,hp⟩=> ?_)
 ·have hi:=(List.getElem?_eq_some_iff.1 hx).1
  have hm:=h1 x (List.mem_of_getElem? hx)
  rw [decide_eq_true (show(i:Int)<(l.length:Int) by omega)]
  refine bY (Ev.jn (fun z=>z= !bX x d) (fun j hj=>aB (aQ hx) (aB (lZ hn x hm) ?_)) (fun z hz=> ?_))
  ·cases ha:bL x with
   |false=>exact hj _ (by unfold bX;rw [ha];rfl)
   |true=>exact aB (wN hn hm) (hj _ (by unfold bX;rw [ha,ltd];simp))
  ·subst hz
   cases hb:bX x d with
   |true=>show Ev (again _) _;rw [aP (by omega)];exact hgo hb
   |false=>exact Ev.some (hno hb)
 ·rw [decide_eq_false (show¬(l.length:Int)<(l.length:Int) by omega)]
  have e:l.all (fun a=>bX a d)=true:=List.all_eq_true.2 (fun c hc=>by obtain⟨i,hi⟩:=List.getElem?_of_mem hc;exact hall i c hi)
  unfold cS
  rw [e]
  refine bZ (Ev.jn (fun z=>z=decide (1≤l.length∧l.length≤2)) (fun j hj=>aH (fun h=>hj _ ?_) (fun h=>hj _ ?_)) (fun z hz=>Ev.some (by rw [hz];rfl)))
  ·by_cases h2:l.length≤2
   ·rw [decide_eq_true (show(l.length:Int)≤2 by omega),decide_eq_true (by omega)]
   ·rw [decide_eq_false (show¬(l.length:Int)≤2 by omega),decide_eq_false (by omega)]
  ·rw [decide_eq_false (by omega)]
 ·unfold cS
  rw [List.all_eq_false.2 ⟨x,List.mem_of_getElem? hx,by rw [hp];simp⟩];rfl
theorem O9{n:Nat}(hn:5000≤n){a:Affine}(ha:SmA a)(d:Int):gF n a d=some (!bX a d):=by
 unfold gF
 rw [q5 hn a ha]
 simp only [jn,Option.bind]
 cases hb:bL a with
 |false=>simp [bX,hb]
 |true=>
  rw [O8 hn ha]
  simp only [bX,hb,Bool.not_true,cond_false,Bool.true_and]
  rw [ltd]
theorem rZ(n k:Nat):cH n (k:Int) 1 2=some (decide (1≤k∧k≤2)):=by
 rw [eH]
 congr 1
 by_cases h:1≤k∧k≤2
 ·rw [decide_eq_true h,decide_eq_true (by omega)]
 ·rw [decide_eq_false h,decide_eq_false (by omega)]
theorem wA{n:Nat}(hn:5000≤n){l:List Affine}(hl:H2 l)(d:Int):l7 n l d=some (cS l d):=by
 obtain⟨h0,h1⟩:=hl
 unfold l7
 rw [rZ]
 have hc:=sX (n:=n) (f:=fun q0=>gF n q0 d) (p:=fun a=> !bX a d) (l:=l) (fun x hx=>O9 hn (h1 x hx) d) (by omega) (by omega)
 simp only [jn,Option.bind]
 rw [hc]
 unfold cS
 have e:(l.any fun a=> !bX a d)= !(l.all fun a=>bX a d):=by
  rw [List.all_eq_not_any_not];simp
 rw [e]
 cases decide (1≤l.length∧l.length≤2)<;>simp
def O5{α:Type}(p:Nat→α→Bool)(l:List α):Bool:=l.zipIdx.all fun q=>p q.2 q.1
theorem pP{α:Type}{p:Nat→α→Bool}{l:List α}(h: ∀(i:Nat) x,l[i]? =some x→p i x=true):O5 p l=true:=
 List.all_eq_true.2 (fun q hq=>h q.2 q.1 (List.mem_zipIdx_iff_getElem?.1 hq))
theorem nM{α:Type}{p:Nat→α→Bool}{l:List α}{i:Nat}{x:α}(h:l[i]? =some x)(hp:p i x=false):O5 p l=false:=
 List.all_eq_false.2 ⟨(x,i),List.mem_zipIdx_iff_getElem?.2 h,by rw [hp];simp⟩
theorem O4{α:Type}{p:Nat→α→Bool}{l:List α}(h:O5 p l=true){i:Nat}{x:α}(hx:l[i]? =some x):p i x=true:=
 List.all_eq_true.1 h (x,i) (List.mem_zipIdx_iff_getElem?.2 hx)
def lC(nest:List Loop):Bool:=O5 (fun i l=>cS l.lo (i:Int)&&cS l.hi (i:Int)) nest&&decide (nest.length≤4)
def SmN(nest:List Loop):Prop:=nest.length≤1000∧ ∀l∈nest,H2 l.lo∧H2 l.hi
theorem P1{n:Nat}(hn:5000≤n){nest:List Loop}(h:SmN nest):mX n nest=some (lC nest):=by
 obtain⟨h0,h1⟩:=h
 refine Ev.eq ?_
 unfold mX
 refine nW (l:=nest) (p:=fun i l=>cS l.lo (i:Int)&&cS l.hi (i:Int)) (by omega) (by omega) (fun again i x hx hgo hno=> ?_) (fun again hall=> ?_) (fun⟨i,x,hx,hp⟩=> ?_)
 ·have hi:=(List.getElem?_eq_some_iff.1 hx).1
  obtain⟨m1,m2⟩:=h1 x (List.mem_of_getElem? hx)
  rw [decide_eq_true (show(i:Int)<(nest.length:Int) by omega)]
  refine aB (aQ hx) (Ev.jn (fun z=>z= !(cS x.lo (i:Int)&&cS x.hi (i:Int))) (fun j hj=>aB (wA hn m1 _) ?_) (fun z hz=> ?_))
  ·cases ha:cS x.lo (i:Int) with
   |false=>exact hj _ (by rw [ha];rfl)
   |true=>exact aB (wA hn m2 _) (hj _ (by rw [ha];rfl))
  ·subst hz
   cases hb:(cS x.lo (i:Int)&&cS x.hi (i:Int)) with
   |true=>show Ev (again _) _;rw [aP (by omega)];exact hgo hb
   |false=>exact Ev.some (hno hb)
 ·rw [decide_eq_false (show¬(nest.length:Int)<(nest.length:Int) by omega)]
  refine Ev.some ?_
  unfold lC
  rw [pP hall,Bool.true_and]
  exact decide_eq_decide.2 (by omega)
 ·unfold lC;rw [nM hx hp];rfl
theorem L1{n:Nat}(hn:5000≤n){nest:List Loop}(h:SmN nest):mT n nest=some (lC nest):=by
 obtain⟨h0,h1⟩:=h
 unfold mT
 by_cases h4:nest.length≤4
 ·rw [decide_eq_true (show(nest.length:Int)≤4 by omega)]
  refine Ev.eq ?_
  refine nW (l:=nest) (p:=fun i l=>cS l.lo (i:Int)&&cS l.hi (i:Int)) (by omega) (by omega) (fun again i x hx hgo hno=> ?_) (fun again hall=> ?_) (fun⟨i,x,hx,hp⟩=> ?_)
  ·have hi:=(List.getElem?_eq_some_iff.1 hx).1
   obtain⟨m1,m2⟩:=h1 x (List.mem_of_getElem? hx)
   rw [decide_eq_true (show(i:Int)<(nest.length:Int) by omega)]
   refine Ev.jn (fun z=>z=true) (fun j hj=>bY (hj _ rfl)) (fun z hz=> ?_)
   subst hz
   refine bY (Ev.jn (fun z=>z= !(cS x.lo (i:Int)&&cS x.hi (i:Int))) (fun j hj=>aB (aQ hx) (aB (D3 hn m1 _) ?_)) (fun z hz=> ?_))
   ·cases ha:cS x.lo (i:Int) with
    |false=>exact hj _ (by rw [ha];rfl)
    |true=>exact aB (D3 hn m2 _) (hj _ (by rw [ha];rfl))
   ·subst hz
    cases hb:(cS x.lo (i:Int)&&cS x.hi (i:Int)) with
    |true=>show Ev (again _) _;rw [aP (by omega)];exact hgo hb
    |false=>exact Ev.some (hno hb)
  ·rw [decide_eq_false (show¬(nest.length:Int)<(nest.length:Int) by omega)]
   refine Ev.jn (fun z=>z=false) (fun j hj=>bZ (hj _ rfl)) (fun z hz=> ?_)
   subst hz
   refine Ev.some ?_
   unfold lC
   rw [pP hall,decide_eq_true h4];rfl
  ·unfold lC;rw [nM hx hp];rfl
 ·obtain⟨k,rfl⟩: ∃k,n=k+1:=⟨n-1,by omega⟩
  rw [decide_eq_false (show¬(nest.length:Int)≤4 by omega)]
  unfold lC
  rw [decide_eq_false h4,Bool.and_false]
  simp only [aM,jn]
  cases decide ((0:Int)<(nest.length:Int))<;>rfl
def mx:List Int→Int
 | []=>0
 |x::xs=>xs.foldl max x
def mn:List Int→Int
 | []=>0
 |x::xs=>xs.foldl min x
theorem aJJ{l:List Int}(h:l≠[])(x:Int):mx (l++[x])=max (mx l) x:=by
 cases l with
 |nil=>exact absurd rfl h
 |cons a l=>simp [mx,List.foldl_append]
theorem aJM{l:List Int}(h:l≠[])(x:Int):mn (l++[x])=min (mn l) x:=by
 cases l with
 |nil=>exact absurd rfl h
 |cons a l=>simp [mn,List.foldl_append]
theorem aKr: ∀(l:List Int) (a:Int),a≤l.foldl max a
 | [],a=>Int.le_refl _
 |x::l,a=>Int.le_trans (Int.le_max_left a x) (aKr l (max a x))
theorem aKs: ∀(l:List Int) (a:Int),l.foldl min a≤a
 | [],a=>Int.le_refl _
 |x::l,a=>Int.le_trans (aKs l (min a x)) (Int.min_le_left a x)
def W0(l:List Affine)(p:List Int):List Int:=l.map (fun a=>bV a p)
def kO(l:Loop)(p:List Int):Int:=mx (W0 l.lo p)
def pJ(l:Loop)(p:List Int):Int:=mn (W0 l.hi p)
def qF(k:Nat)(p:List Int):Prop:=p.length=k∧k≤4∧ptB (100*40^k) p
theorem M1{k:Nat}(h:k≤4):(0:Int)≤100*40^k∧(100:Int)*40^k≤1000000000:=by
 match k,h with
 |0,_=>decide
 |1,_=>decide
 |2,_=>decide
 |3,_=>decide
 |4,_=>decide
theorem pY{l:List Affine}{d:Int}(h:cS l d=true):1≤l.length∧l.length≤2∧ ∀a∈l,bL a=true:=by
 simp only [cS,Bool.and_eq_true,decide_eq_true_eq,List.all_eq_true] at h
 refine⟨h.2.1,h.2.2,fun a ha=> ?_⟩
 have:=h.1 a ha
 simp only [bX,Bool.and_eq_true] at this
 exact this.1
theorem aHX{a:Affine}(ha:bL a=true){k:Nat}{p:List Int}(hp:qF k p)(hk:k≤3): -(40*(100*40^k))≤bV a p∧bV a p≤40*(100*40^k):=by
 obtain⟨h1,h2,h3⟩:=jD ha
 obtain⟨p1,p2,p3⟩:=hp
 obtain⟨q1,q2⟩:=M1 (k:=k) (by omega)
 have hq:(100:Int)≤100*40^k:=by
  match k,hk with
  |0,_=>decide
  |1,_=>decide
  |2,_=>decide
  |3,_=>decide
 generalize (100*40^k:Int)=M at*
 have h4:=aIu (M:=M) q1 (cs:=a.coefs) (xs:=p) h3 (fun x hx=>p3 x hx)
 have h6:9*M*(p.length:Int)≤9*M*3:=Int.mul_le_mul_of_nonneg_left (by omega) (by omega)
 simp only [pI] at*
 unfold bV
 omega
theorem aHh{n:Nat}(hn:5000≤n){a:Affine}(ha:bL a=true){k:Nat}{p:List Int}(hp:qF k p):iE n a p=some (bV a p):=
 aFT hn ha (by have:=hp.1;have:=hp.2.1;omega) (M1 hp.2.1) hp.2.2
theorem aHO{n:Nat}(hn:5000≤n){a:Affine}(ha:bL a=true){k:Nat}{p:List Int}(hp:qF k p):cQ n a p=some (bV a p):=
 aGd hn ha (by have:=hp.1;have:=hp.2.1;omega) (M1 hp.2.1) hp.2.2
theorem mL{l:List Affine}{p:List Int}{i:Nat}{a:Affine}(h:l[i]? =some a):(W0 l p)[i]? =some (bV a p):=by
 unfold W0;rw [List.getElem?_map,h];rfl
theorem I4(l:List Affine)(p:List Int):(W0 l p).length=l.length:=List.length_map ..
theorem aEX{α:Type}{l:List α}{i:Nat}(h:1≤i)(hl:1≤l.length):l.take i≠[]:=by
 intro e
 have:(l.take i).length=0:=by rw [e];rfl
 rw [List.length_take] at this;omega
theorem aE8{l:List Int}{i:Nat}{x:Int}(h:l[i]? =some x)(hi:1≤i):mx (l.take (i+1))=max (mx (l.take i)) x:=by
 have:=(List.getElem?_eq_some_iff.1 h).1
 rw [List.take_add_one,h]
 exact aJJ (aEX hi (by omega)) x
theorem aFb{l:List Int}{i:Nat}{x:Int}(h:l[i]? =some x)(hi:1≤i):mn (l.take (i+1))=min (mn (l.take i)) x:=by
 have:=(List.getElem?_eq_some_iff.1 h).1
 rw [List.take_add_one,h]
 exact aJM (aEX hi (by omega)) x
theorem aDN{l:List Int}{x:Int}(h:l[0]? =some x):mx (l.take 1)=x:=by
 cases l with
 |nil=>simp at h
 |cons a l=>simp at h;subst h;rfl
theorem aDO{l:List Int}{x:Int}(h:l[0]? =some x):mn (l.take 1)=x:=by
 cases l with
 |nil=>simp at h
 |cons a l=>simp at h;subst h;rfl
theorem K4{n:Nat}(hn:5000≤n){l:Loop}{d d':Int}(h1:cS l.lo d=true)(h2:cS l.hi d'=true){k:Nat}{p:List Int}(hp:qF k p):nZ n l p=some (kO l p,pJ l p):=by
 obtain⟨a1,a2,a3⟩:=pY h1
 obtain⟨b1,b2,b3⟩:=pY h2
 have g1:=List.getElem?_eq_getElem (show 0<l.lo.length by omega)
 have g2:=List.getElem?_eq_getElem (show 0<l.hi.length by omega)
 refine Ev.eq ?_
 unfold nZ
 refine aB (aQ (i:=0) g1) (aB (aHh hn (a3 _ (List.mem_of_getElem? g1)) hp) (aB (aQ (i:=0) g2) (aB (aHh hn (b3 _ (List.mem_of_getElem? g2)) hp) ?_)))
 refine Ev.loop (fun x:Int×Int=> ∃i:Nat,x.2=i∧1≤i∧i≤l.lo.length∧x.1=mx ((W0 l.lo p).take i)) (fun x=>l.lo.length-x.2.toNat) ?_ n _ ⟨1,rfl,by omega,by omega,(aDN (mL g1)).symm⟩ (by dsimp only;omega)
 rintro again ⟨x,z⟩ ⟨i,hz,hi1,hi,hx⟩ hr
 dsimp only at hz hx⊢
 subst hz
 refine aH (fun hlt=> ?_) (fun hge=> ?_)
 ·have g:=List.getElem?_eq_getElem (show i<l.lo.length by omega)
  have e:=aE8 (mL (p:=p) g) hi1
  refine Ev.jn (fun z=>z=mx ((W0 l.lo p).take (i+1))) (fun j hj=>aB (aQ g) (aB (aHh hn (a3 _ (List.mem_of_getElem? g)) hp) (aH (fun h=>hj _ ?_) (fun h=>hj _ ?_)))) (fun z hz=> ?_)
  ·rw [e,←hx];omega
  ·rw [e,←hx];omega
  ·rw [aP (by omega)]
   exact hr _ ⟨i+1,by dsimp only;omega,by omega,by omega,hz⟩ (by dsimp only;omega)
 ·have hie:i=l.lo.length:=by omega
  have hx':x=kO l p:=by rw [hx,hie,←I4 l.lo p,List.take_length];rfl
  refine Ev.loop (fun x:Int×Int=> ∃i:Nat,x.2=i∧1≤i∧i≤l.hi.length∧x.1=mn ((W0 l.hi p).take i)) (fun x=>l.hi.length-x.2.toNat) ?_ n _ ⟨1,rfl,by omega,by omega,(aDO (mL g2)).symm⟩ (by dsimp only;omega)
  rintro again2 ⟨y,z⟩ ⟨i,hz,hi1,hi,hy⟩ hr2
  dsimp only at hz hy⊢
  subst hz
  refine aH (fun hlt=> ?_) (fun hge=>Ev.some ?_)
  ·have g:=List.getElem?_eq_getElem (show i<l.hi.length by omega)
   have e:=aFb (mL (p:=p) g) hi1
   refine Ev.jn (fun z=>z=mn ((W0 l.hi p).take (i+1))) (fun j hj=>aB (aQ g) (aB (aHh hn (b3 _ (List.mem_of_getElem? g)) hp) (aH (fun h=>hj _ ?_) (fun h=>hj _ ?_)))) (fun z hz=> ?_)
   ·rw [e,←hy];omega
   ·rw [e,←hy];omega
   ·rw [aP (by omega)]
    exact hr2 _ ⟨i+1,by dsimp only;omega,by omega,by omega,hz⟩ (by dsimp only;omega)
  ·have hie:i=l.hi.length:=by omega
   rw [hx',hy,hie,←I4 l.hi p,List.take_length];rfl
theorem aGb{n:Nat}(hn:5000≤n){l:Loop}{d d':Int}(h1:cS l.lo d=true)(h2:cS l.hi d'=true){k:Nat}{p:List Int}(hp:qF k p):mY n l p=some (kO l p,pJ l p):=by
 obtain⟨a1,a2,a3⟩:=pY h1
 obtain⟨b1,b2,b3⟩:=pY h2
 have g1:=List.getElem?_eq_getElem (show 0<l.lo.length by omega)
 have g2:=List.getElem?_eq_getElem (show 0<l.hi.length by omega)
 refine Ev.eq ?_
 unfold mY
 refine aB (aQ (i:=0) g1) (aB (aHO hn (a3 _ (List.mem_of_getElem? g1)) hp) (aB (aQ (i:=0) g2) (aB (aHO hn (b3 _ (List.mem_of_getElem? g2)) hp) ?_)))
 refine Ev.loop (fun x:Int×Int=> ∃i:Nat,x.2=i∧i≤l.lo.length∧x.1=mx ((W0 l.lo p).take (max i 1))) (fun x=>l.lo.length-x.2.toNat) ?_ n _ ⟨0,rfl,by omega,(aDN (mL g1)).symm⟩ (by dsimp only;omega)
 rintro again ⟨x,z⟩ ⟨i,hz,hi,hx⟩ hr
 dsimp only at hz hx⊢
 subst hz
 refine aH (fun hlt=> ?_) (fun hge=> ?_)
 ·have g:=List.getElem?_eq_getElem (show i<l.lo.length by omega)
  refine aB (aQ g) (aB (aHO hn (a3 _ (List.mem_of_getElem? g)) hp) ?_)
  rw [aP (by omega)]
  refine hr _ ⟨i+1,by dsimp only;omega,by omega,?_⟩ (by dsimp only;omega)
  dsimp only
  rw [show max (i+1) 1=i+1 by omega]
  cases i with
  |zero=>rw [hx,show max 0 1=1 by rfl,Nat.zero_add,aDN (mL g)];omega
  |succ i=>rw [aE8 (mL (p:=p) g) (by omega),hx,show max (i+1) 1=i+1 by omega]
 ·have hie:i=l.lo.length:=by omega
  have hx':x=kO l p:=by rw [hx,hie,Nat.max_eq_left (by omega),←I4 l.lo p,List.take_length];rfl
  refine Ev.loop (fun x:Int×Int=> ∃i:Nat,x.2=i∧i≤l.hi.length∧x.1=mn ((W0 l.hi p).take (max i 1))) (fun x=>l.hi.length-x.2.toNat) ?_ n _ ⟨0,rfl,by omega,(aDO (mL g2)).symm⟩ (by dsimp only;omega)
  rintro again2 ⟨y,z⟩ ⟨i,hz,hi,hy⟩ hr2
  dsimp only at hz hy⊢
  subst hz
  refine aH (fun hlt=> ?_) (fun hge=>Ev.some ?_)
  ·have g:=List.getElem?_eq_getElem (show i<l.hi.length by omega)
   refine aB (aQ g) (aB (aHO hn (b3 _ (List.mem_of_getElem? g)) hp) ?_)
   rw [aP (by omega)]
   refine hr2 _ ⟨i+1,by dsimp only;omega,by omega,?_⟩ (by dsimp only;omega)
   dsimp only
   rw [show max (i+1) 1=i+1 by omega]
   cases i with
   |zero=>rw [hy,show max 0 1=1 by rfl,Nat.zero_add,aDO (mL g)];omega
   |succ i=>rw [aFb (mL (p:=p) g) (by omega),hy,show max (i+1) 1=i+1 by omega]
  ·have hie:i=l.hi.length:=by omega
   rw [hx',hy,hie,Nat.max_eq_left (by omega),←I4 l.hi p,List.take_length];rfl
theorem H5{l:Loop}{d d':Int}(h1:cS l.lo d=true)(h2:cS l.hi d'=true){k:Nat}{p:List Int}(hp:qF k p)(hk:k≤3){v:Int}(hv:kO l p≤v∧v<pJ l p):qF (k+1) (p++[v]):=by
 obtain⟨a1,a2,a3⟩:=pY h1
 obtain⟨b1,b2,b3⟩:=pY h2
 have e1: -(40*(100*40^k))≤kO l p:=by
  cases hl:l.lo with
  |nil=>rw [hl] at a1;simp at a1
  |cons a as=>
   have:=(aHX (a3 a (by rw [hl];simp)) hp hk).1
   unfold kO W0;rw [hl]
   exact Int.le_trans this (aKr _ _)
 have e2:pJ l p≤40*(100*40^k):=by
  cases hl:l.hi with
  |nil=>rw [hl] at b1;simp at b1
  |cons a as=>
   have:=(aHX (b3 a (by rw [hl];simp)) hp hk).2
   unfold pJ W0;rw [hl]
   exact Int.le_trans (aKs _ _) this
 obtain⟨p1,p2,p3⟩:=hp
 have e3:(100*40^(k+1):Int)=40*(100*40^k):=by rw [Int.pow_succ];omega
 have q:=(M1 (k:=k) (by omega)).1
 refine⟨by simp [p1],by omega,fun x hx=> ?_⟩
 rw [e3]
 rcases List.mem_append.1 hx with h|h
 ·have:=p3 x h
  simp only [pI] at this⊢
  omega
 ·simp at h;subst h
  simp only [pI]
  omega
def pts:List Loop→List Int→List (List Int)
 | [],p=>[p]
 |l::ls,p=>(lQ (kO l p) (pJ l p)).flatMap (fun v=>pts ls (p++[v]))
def wk:List Loop→List Int→Int
 | [],_=>1
 |l::ls,p=>1+((lQ (kO l p) (pJ l p)).map (fun v=>wk ls (p++[v]))).sum
theorem pW{α:Type}(f:α→Int): ∀(l:List α),(∀x∈l,1≤f x)→(l.length:Int)≤(l.map f).sum
 | [],_=>by simp
 |x::l,h=>by
  have h1:=pW f l (fun y hy=>h y (by simp [hy]))
  have h2:=h x (by simp)
  simp only [List.map_cons,List.sum_cons,List.length_cons];omega
theorem aAF: ∀(ls:List Loop) (p:List Int),1≤wk ls p
 | [],p=>Int.le_refl _
 |l::ls,p=>by
  have:=pW (fun v=>wk ls (p++[v])) (lQ (kO l p) (pJ l p)) (fun v _=>aAF ls _)
  simp only [wk];omega
def Fit(nest:List Loop):Prop:=nest.length≤4∧ ∀(i:Nat) l,nest[i]? =some l→cS l.lo (i:Int)=true∧cS l.hi (i:Int)=true
theorem aA7{nest:List Loop}(h:lC nest=true):Fit nest:=by
 simp only [lC,Bool.and_eq_true,decide_eq_true_eq] at h
 refine⟨h.2,fun i l hl=> ?_⟩
 have:=O4 h.1 hl
 simpa [Bool.and_eq_true] using this
theorem vH{nest:List Loop}{k:Nat}{l:Loop}{ls:List Loop}(h:nest.drop k=l::ls):nest[k]? =some l∧nest.drop (k+1)=ls∧k<nest.length:=by
 have h1:(nest.drop k)[0]? =some l:=by rw [h];rfl
 rw [List.getElem?_drop,Nat.add_zero] at h1
 refine⟨h1,?_,(List.getElem?_eq_some_iff.1 h1).1⟩
 have:(nest.drop k).drop 1=ls:=by rw [h];rfl
 rwa [List.drop_drop] at this
theorem yU{nest:List Loop}{k:Nat}(h:nest.drop k=[])(hk:k≤nest.length):k=nest.length:=by
 have:(nest.drop k).length=0:=by rw [h];rfl
 rw [List.length_drop] at this;omega
theorem eD(p:List Int)(h:p.length≤1000):app [] p=some p:=by rw [bW (by simp;omega)];rfl
theorem aBX(l:List Int)(f:Int→Int)(v:Int):((l++[v]).map f).sum=(l.map f).sum+f v:=by simp
theorem aJA{lo v:Int}(h:lo≤v):((lQ lo v).length:Int)=v-lo:=by unfold lQ;simp;omega
theorem X9{nest:List Loop}(hf:Fit nest): ∀(ls:List Loop) (n k:Nat) (p:List Int) (most:Int),5000+ls.length≤n→nest.drop k=ls→k≤nest.length→qF k p→0≤most→most≤1200→
  Ev (s_l2Work n nest p most) (fun r=>(wk ls p≤most→r=wk ls p)∧(most<wk ls p→most<r)∧1≤r∧r≤most+1)
 | [],n,k,p,most,hn,hd,hk,hp,h0,h1=>by
  obtain⟨n,rfl⟩: ∃j,n=j+1:=⟨n-1,by omega⟩
  have hk':=yU hd hk
  have hpl:=hp.1
  unfold s_l2Work
  rw [decide_eq_true (show(p.length:Int)=(nest.length:Int) by omega)]
  exact Ev.some ⟨fun _=>rfl,fun h=>by simp only [wk] at h;omega,by omega,by omega⟩
 |l::ls,n,k,p,most,hn,hd,hk,hp,h0,h1=>by
  obtain⟨n,rfl⟩: ∃j,n=j+1:=⟨n-1,by omega⟩
  obtain⟨d1,d2,d3⟩:=vH hd
  obtain⟨s1,s2⟩:=hf.2 k l d1
  have hpl:=hp.1
  have hk3:k≤3:=by have:=hf.1;omega
  simp only [List.length_cons] at hn
  unfold s_l2Work
  rw [decide_eq_false (show¬(p.length:Int)=(nest.length:Int) by omega)]
  refine bZ (aB (x:=l) (by rw [hpl];exact aQ d1) (aB (K4 (by omega) s1 s2 hp) ?_))
  let f:Int→Int:=fun v=>wk ls (p++[v])
  have hfp: ∀v,1≤f v:=fun v=>aAF _ _
  have hW:wk (l::ls) p=1+((lQ (kO l p) (pJ l p)).map f).sum:=rfl
  refine Ev.loop (fun x:Int×Int=>kO l p≤x.2∧(x.2≤pJ l p∨x.2=kO l p)∧(1+((lQ (kO l p) x.2).map f).sum≤most→x.1=1+((lQ (kO l p) x.2).map f).sum)∧(most<1+((lQ (kO l p) x.2).map f).sum→most<x.1)∧1≤x.1∧x.1≤most+1)
   (fun x=>(most+1-x.1).toNat) ?_ n _ ⟨Int.le_refl _,.inr rfl,fun _=>by rw [iT (Int.le_refl _)];rfl,fun h=>by rw [iT (Int.le_refl _)] at h;simp at h;dsimp only;omega,by dsimp only;omega,by dsimp only;omega⟩ (by dsimp only;omega)
  rintro again ⟨x,v⟩ ⟨i1,i2,i3,i4,i5,i6⟩ hr
  dsimp only at i1 i2 i3 i4 i5 i6⊢
  refine Ev.jn (fun z=>z=decide (v<pJ l p∧x≤most)) (fun j hj=>aH (fun h=>hj _ ?_) (fun h=>hj _ ?_)) (fun z hz=> ?_)
  ·by_cases hx:x≤most
   ·rw [decide_eq_true hx,decide_eq_true ⟨h,hx⟩]
   ·rw [decide_eq_false hx,decide_eq_false (fun h=>hx h.2)]
  ·rw [decide_eq_false (fun h'=>h h'.1)]
  subst hz
  refine aH (fun⟨hv,hx⟩=> ?_) (fun hno=>Ev.some ?_)
  ·have hsum:x=1+((lQ (kO l p) v).map f).sum:=i3 (by apply Int.not_lt.1;intro h;have:=i4 h;omega)
   have hp':=H5 s1 s2 hp hk3 ⟨i1,hv⟩
   have e1:wr (most-x)=most-x:=by rw [aP (by omega)]
   rw [e1]
   refine aB (eD p (by omega)) (aB (bW (by simp;omega)) (aL (X9 hf ls n (k+1) (p++[v]) (most-x) (by omega) d2 (by omega) hp' (by omega) (by omega)) (fun r ⟨r1,r2,r3,r4⟩=> ?_)))
   have hvb:v<pJ l p:=hv
   have hvr: -1000000000≤v∧v≤1000000000:=by
    have h9:=hp'.2.2 v (by simp)
    have h8:=M1 hp'.2.1
    simp only [pI] at h9;omega
   rw [aP (n:=v+1) (by omega),aP (n:=x+r) (by omega)]
   have hs:1+((lQ (kO l p) (v+1)).map f).sum=x+f v:=by rw [oZ i1,aBX,hsum];omega
   refine hr _ ⟨by dsimp only;omega,.inl (by dsimp only;omega),?_,?_,by dsimp only;omega,by dsimp only;omega⟩ (by dsimp only;omega)
   ·dsimp only;rw [hs];intro h
    have:r=f v:=r1 (show f v≤most-x by omega)
    omega
   ·dsimp only;rw [hs];intro h
    have:most-x<r:=r2 (show most-x<f v by omega)
    omega
  ·have hmono:1+((lQ (kO l p) v).map f).sum≤wk (l::ls) p∧(pJ l p≤v→1+((lQ (kO l p) v).map f).sum=wk (l::ls) p):=by
    rw [hW]
    by_cases h:v<pJ l p
    ·refine⟨?_,fun h'=>by omega⟩
     rw [uZ i1 h,List.map_append,List.sum_append,List.map_cons,List.sum_cons]
     have:=pW f (lQ (v+1) (pJ l p)) (fun y _=>hfp y)
     have:=hfp v
     omega
    ·have:lQ (kO l p) v=lQ (kO l p) (pJ l p):=by
      rcases i2 with h2|h2
      ·rw [show v=pJ l p by omega]
      ·subst h2;rw [iT (Int.le_refl _),iT (by omega)]
     rw [this];exact⟨Int.le_refl _,fun _=>rfl⟩
   refine⟨fun h=> ?_,fun h=> ?_,i5,i6⟩
   ·have hx:=i3 (by omega)
    rw [hx]
    apply hmono.2
    apply Int.not_lt.1
    intro hv;exact hno ⟨hv,by omega⟩
   ·apply Int.not_le.1
    intro hx
    have hv:pJ l p≤v:=by apply Int.not_lt.1;intro hv;exact hno ⟨hv,hx⟩
    have:=i4 (by rw [hmono.2 hv];exact h)
    omega
theorem D1{nest:List Loop}(hf:Fit nest): ∀(ls:List Loop) (n k:Nat) (p:List Int) (out:List (List Int)),5000+ls.length≤n→nest.drop k=ls→k≤nest.length→qF k p→wk ls p≤1200→out.length≤120→
  Ev (s_l2Points n out nest p) (fun r=>(out.length+(pts ls p).length≤120→r=out++pts ls p)∧(120<out.length+(pts ls p).length→120<r.length))
 | [],n,k,p,out,hn,hd,hk,hp,h0,h1=>by
  obtain⟨n,rfl⟩: ∃j,n=j+1:=⟨n-1,by omega⟩
  have hk':=yU hd hk
  have hpl:=hp.1
  have hf1:=hf.1
  unfold s_l2Points
  rw [decide_eq_true (show(p.length:Int)=(nest.length:Int) by omega)]
  refine bY (aB (eD p (by omega)) (aB (bW (by simp;omega)) (Ev.some ⟨fun _=>rfl,fun h=>by simp [pts] at h ⊢; omega⟩)))
 |l::ls,n,k,p,out,hn,hd,hk,hp,h0,h1=>by
  obtain⟨n,rfl⟩: ∃j,n=j+1:=⟨n-1,by omega⟩
  obtain⟨d1,d2,d3⟩:=vH hd
  obtain⟨s1,s2⟩:=hf.2 k l d1
  have hpl:=hp.1
  have hf1:=hf.1
  have hk3:k≤3:=by omega
  simp only [List.length_cons] at hn
  unfold s_l2Points
  rw [decide_eq_false (show¬(p.length:Int)=(nest.length:Int) by omega)]
  refine bZ (aB (x:=l) (by rw [hpl];exact aQ d1) (aB (K4 (by omega) s1 s2 hp) ?_))
  let f:Int→Int:=fun v=>wk ls (p++[v])
  have hfp: ∀v,1≤f v:=fun v=>aAF _ _
  have hW:wk (l::ls) p=1+((lQ (kO l p) (pJ l p)).map f).sum:=rfl
  let g:Int→List (List Int):=fun v=>pts ls (p++[v])
  have hP:pts (l::ls) p=(lQ (kO l p) (pJ l p)).flatMap g:=rfl
  have hlen:kO l p≤pJ l p→pJ l p-kO l p≤1199:=fun hle=>by
   have:=pW f (lQ (kO l p) (pJ l p)) (fun y _=>hfp y)
   have:=aJA hle
   omega
  refine Ev.loop (fun x:List (List Int)×Int=>kO l p≤x.2∧(x.2≤pJ l p∨x.2=kO l p)∧(out.length+((lQ (kO l p) x.2).flatMap g).length≤120→x.1=out++(lQ (kO l p) x.2).flatMap g)∧(120<out.length+((lQ (kO l p) x.2).flatMap g).length→120<x.1.length))
   (fun x=>(pJ l p-x.2).toNat) ?_ n _ ⟨Int.le_refl _,.inr rfl,fun _=>by rw [iT (Int.le_refl _)];simp,fun h=>by rw [iT (Int.le_refl _)] at h;simp at h;omega⟩ (by dsimp only;omega)
  rintro again ⟨x,v⟩ ⟨i1,i2,i3,i4⟩ hr
  dsimp only at i1 i2 i3 i4⊢
  refine Ev.jn (fun z=>z=decide (v<pJ l p∧x.length≤120)) (fun j hj=>aH (fun h=>hj _ ?_) (fun h=>hj _ ?_)) (fun z hz=> ?_)
  ·by_cases hx:x.length≤120
   ·rw [decide_eq_true (show(x.length:Int)≤120 by omega),decide_eq_true ⟨h,hx⟩]
   ·rw [decide_eq_false (show¬(x.length:Int)≤120 by omega),decide_eq_false (fun h=>hx h.2)]
  ·rw [decide_eq_false (fun h'=>h h'.1)]
  subst hz
  refine aH (fun⟨hv,hx⟩=> ?_) (fun hno=>Ev.some ?_)
  ·have hxe:x=out++(lQ (kO l p) v).flatMap g:=i3 (by apply Nat.not_lt.1;intro h;have:=i4 h;omega)
   have hp':=H5 s1 s2 hp hk3 ⟨i1,hv⟩
   have hwc:f v≤1200:=by
    rw [hW,uZ i1 hv,List.map_append,List.sum_append,List.map_cons,List.sum_cons] at h0
    have:=pW f (lQ (v+1) (pJ l p)) (fun y _=>hfp y)
    have:=pW f (lQ (kO l p) v) (fun y _=>hfp y)
    omega
   refine aB (eD p (by omega)) (aB (bW (by simp;omega)) (aL (D1 hf ls n (k+1) (p++[v]) x (by omega) d2 (by omega) hp' hwc hx) (fun r ⟨r1,r2⟩=> ?_)))
   have hvr: -1000000000≤v∧v≤1000000000:=by
    have h9:=hp'.2.2 v (by simp)
    have h8:=M1 hp'.2.1
    simp only [pI] at h9;omega
   rw [aP (n:=v+1) (by omega)]
   have hs:(lQ (kO l p) (v+1)).flatMap g=(lQ (kO l p) v).flatMap g++g v:=by rw [oZ i1,List.flatMap_append];simp
   refine hr _ ⟨by dsimp only;omega,.inl (by dsimp only;omega),?_,?_⟩ (by dsimp only;omega)
   ·dsimp only;rw [hs];intro h
    simp only [List.length_append] at h
    have hl:x.length=out.length+((lQ (kO l p) v).flatMap g).length:=by rw [hxe,List.length_append]
    rw [r1 (show x.length+(g v).length≤120 by omega),hxe,List.append_assoc]
   ·dsimp only;rw [hs];intro h
    simp only [List.length_append] at h
    have hl:x.length=out.length+((lQ (kO l p) v).flatMap g).length:=by rw [hxe,List.length_append]
    exact r2 (show 120<x.length+(g v).length by omega)
  ·have hmono:((lQ (kO l p) v).flatMap g).length≤(pts (l::ls) p).length∧(pJ l p≤v→(lQ (kO l p) v).flatMap g=pts (l::ls) p):=by
    rw [hP]
    by_cases h:v<pJ l p
    ·refine⟨?_,fun h'=>by omega⟩
     rw [uZ i1 h,List.flatMap_append,List.length_append]
     omega
    ·have:lQ (kO l p) v=lQ (kO l p) (pJ l p):=by
      rcases i2 with h2|h2
      ·rw [show v=pJ l p by omega]
      ·subst h2;rw [iT (Int.le_refl _),iT (by omega)]
     rw [this];exact⟨Nat.le_refl _,fun _=>rfl⟩
   refine⟨fun h=> ?_,fun h=> ?_⟩
   ·have hx:=i3 (by omega)
    rw [hx,hmono.2]
    apply Int.not_lt.1
    intro hv;exact hno ⟨hv,by rw [hx,List.length_append];omega⟩
   ·apply Nat.not_le.1
    intro hx
    have hv:pJ l p≤v:=by apply Int.not_lt.1;intro hv;exact hno ⟨hv,hx⟩
    have:=i4 (by rw [hmono.2 hv];exact h)
    omega
theorem aAc{nest:List Loop}(hf:Fit nest): ∀(ls:List Loop) (n k:Nat) (p:List Int) (st:Int) (out:List (List Int)),5000+ls.length≤n→nest.drop k=ls→k≤nest.length→qF k p→0≤st→st≤1199→out.length≤120→
  Ev (i_walking_walk n ⟨nest,st,out⟩ p) (fun r=>(st+wk ls p≤1200∧out.length+(pts ls p).length≤120→r=(true,⟨nest,st+wk ls p-1,out++pts ls p⟩))∧(¬(st+wk ls p≤1200∧out.length+(pts ls p).length≤120)→r.1=false))
 | [],n,k,p,st,out,hn,hd,hk,hp,h0,h1,h2=>by
  obtain⟨n,rfl⟩: ∃j,n=j+1:=⟨n-1,by omega⟩
  have hk':=yU hd hk
  have hpl:=hp.1
  have hf1:=hf.1
  unfold i_walking_walk
  dsimp only
  rw [decide_eq_true (show(p.length:Int)=(nest.length:Int) by omega)]
  have hc:m_ownClone p=some p:=by unfold m_ownClone;rw [if_pos (by omega)]
  refine bY (aB hc (aB (bW (by simp;omega)) (Ev.some ⟨fun h=> ?_,fun h=> ?_⟩)))
  ·simp only [wk,pts,List.length_singleton] at h⊢
   rw [decide_eq_true (by simp;omega),show st+1-1=st by omega]
  ·simp only [wk,pts,List.length_singleton] at h⊢
   exact decide_eq_false (by simp;omega)
 |l::ls,n,k,p,st,out,hn,hd,hk,hp,h0,h1,h2=>by
  obtain⟨n,rfl⟩: ∃j,n=j+1:=⟨n-1,by omega⟩
  obtain⟨d1,d2,d3⟩:=vH hd
  obtain⟨s1,s2⟩:=hf.2 k l d1
  have hpl:=hp.1
  have hf1:=hf.1
  have hk3:k≤3:=by omega
  simp only [List.length_cons] at hn
  unfold i_walking_walk
  dsimp only
  rw [decide_eq_false (show¬(p.length:Int)=(nest.length:Int) by omega)]
  refine bZ (aB (x:=l) (by rw [hpl];exact aQ d1) (aB (aGb (by omega) s1 s2 hp) ?_))
  let f:Int→Int:=fun v=>wk ls (p++[v])
  have hfp: ∀v,1≤f v:=fun v=>aAF _ _
  have hW:wk (l::ls) p=1+((lQ (kO l p) (pJ l p)).map f).sum:=rfl
  let g:Int→List (List Int):=fun v=>pts ls (p++[v])
  have hP:pts (l::ls) p=(lQ (kO l p) (pJ l p)).flatMap g:=rfl
  refine Ev.loop (fun x:List Loop×Int×List (List Int)×Int=>x.1=nest∧kO l p≤x.2.2.2∧(x.2.2.2≤pJ l p∨x.2.2.2=kO l p)∧x.2.1=st+((lQ (kO l p) x.2.2.2).map f).sum∧x.2.2.1=out++(lQ (kO l p) x.2.2.2).flatMap g∧0≤x.2.1∧x.2.1≤1199∧x.2.2.1.length≤120)
   (fun x=>(1200-x.2.1).toNat) ?_ n _ ⟨rfl,Int.le_refl _,.inr rfl,by dsimp only;rw [iT (Int.le_refl _)];simp,by dsimp only;rw [iT (Int.le_refl _)];simp,h0,h1,h2⟩ (by dsimp only;omega)
  rintro again ⟨nst,x,o,v⟩ ⟨i0,i1,i2,i3,i4,i5,i6,i7⟩ hr
  dsimp only at i0 i1 i2 i3 i4 i5 i6 i7⊢
  subst i0
  have hol:o.length=out.length+((lQ (kO l p) v).flatMap g).length:=by rw [i4,List.length_append]
  refine aH (fun hv=> ?_) (fun hv=>Ev.some ?_)
  ·have hp':=H5 s1 s2 hp hk3 ⟨i1,hv⟩
   have hrest:wk (l::ls) p≥1+((lQ (kO l p) v).map f).sum+f v∧(pts (l::ls) p).length≥((lQ (kO l p) v).flatMap g).length+(g v).length:=by
    rw [hW,hP,uZ i1 hv,List.map_append,List.sum_append,List.map_cons,List.sum_cons,List.flatMap_append,List.length_append,List.flatMap_cons,List.length_append]
    have:=pW f (lQ (v+1) (pJ l p)) (fun y _=>hfp y)
    constructor
    ·omega
    ·omega
   have hvr: -1000000000≤v∧v≤1000000000:=by
    have h9:=hp'.2.2 v (by simp)
    have h8:=M1 hp'.2.1
    simp only [pI] at h9;omega
   have e1:wr (x+1)=x+1:=by rw [aP (by omega)]
   have e2:wr (x+1+1)=x+1+1:=by rw [aP (by omega)]
   have e3:wr (v+1)=v+1:=by rw [aP (by omega)]
   rw [e1,e2,e3]
   refine Ev.jn (fun z:List Loop×Int×List (List Int)×Bool=>(z.2.2.2=false→z.1=nst∧x+f v≤1199∧o.length+(g v).length≤120∧z.2.1=x+f v∧z.2.2.1=o++g v)∧(z.2.2.2=true→ ¬(st+wk (l::ls) p≤1200∧out.length+(pts (l::ls) p).length≤120)))
    (fun j hj=>aH (fun h=>hj _ ⟨fun h'=>(by cases h'),fun _=> ?_⟩) (fun h=> ?_)) (fun z hz=> ?_)
   ·have:=hfp v
    omega
   ·have hc:m_ownClone p=some p:=by unfold m_ownClone;rw [if_pos (by omega)]
    refine aB hc (aB (bW (by simp;omega)) (aL (aAc hf ls n (k+1) (p++[v]) (x+1) o (by omega) d2 (by omega) hp' (by omega) (by omega) i7) (fun r ⟨r1,r2⟩=> ?_)))
    by_cases hc:x+1+f v≤1200∧o.length+(g v).length≤120
    ·rw [r1 hc]
     exact hj _ ⟨fun _=>⟨rfl,by omega,hc.2,show x+1+f v-1=x+f v by omega,rfl⟩,fun h=>(by cases h)⟩
    ·have hr1:=r2 hc
     obtain⟨rb,⟨rn,rs,ro⟩⟩:=r
     dsimp only at hr1⊢
     subst hr1
     exact hj _ ⟨fun h=>(by cases h),fun _=>by omega⟩
   ·obtain⟨za,zb,zc,zd⟩:=z
    obtain⟨z2,z3⟩:=hz
    dsimp only at z2 z3⊢
    cases zd with
    |true=>exact Ev.some ⟨fun h=>absurd h (z3 rfl),fun _=>rfl⟩
    |false=>
     obtain⟨rfl,y1,y2,y3,y4⟩:=z2 rfl
     refine hr _ ⟨rfl,by dsimp only;omega,.inl (by dsimp only;omega),?_,?_,by dsimp only;have:=hfp v;omega,by dsimp only;omega,?_⟩ (by dsimp only;have:=hfp v;omega)
     ·dsimp only;rw [oZ i1,aBX,y3,i3];omega
     ·dsimp only;rw [y4,i4,oZ i1,List.flatMap_append];simp
     ·dsimp only;rw [y4,List.length_append];exact y2
  ·have:lQ (kO l p) v=lQ (kO l p) (pJ l p):=by
    rcases i2 with h2|h2
    ·rw [show v=pJ l p by omega]
    ·subst h2;rw [iT (Int.le_refl _),iT (by omega)]
   rw [this] at i3 i4 hol
   rw [←hP] at i4 hol
   refine⟨fun h=> ?_,fun h=> ?_⟩
   ·rw [i4,i3,hW,show st+(1+((lQ (kO l p) (pJ l p)).map f).sum)-1=st+((lQ (kO l p) (pJ l p)).map f).sum by omega]
   ·exact absurd ⟨by omega,by omega⟩ h
def NP(nest:List Loop):Option (List (List Int)):=if lC nest=true∧wk nest []≤1200∧(pts nest []).length≤120 then some (pts nest []) else none
def aEe:Option (List (List Int))→List (List Int)×Bool
 |none=>([],false)
 |some l=>(l,true)
theorem pt0:qF 0 []:=⟨rfl,by omega,fun x h=>by cases h⟩
theorem G4{n:Nat}(hn:6000≤n){nest:List Loop}(h:SmN nest):lI n nest=some (aEe (NP nest)):=by
 refine Ev.eq ?_
 unfold lI
 refine aB (P1 (by omega) h) ?_
 unfold NP
 cases hv:lC nest with
 |false=>exact Ev.some (by simp [aEe])
 |true=>
  have hf:=aA7 hv
  refine aL (aAc hf nest n 0 [] 0 [] (by have:=hf.1;omega) rfl (by omega) pt0 (by omega) (by omega) (by simp)) (fun r ⟨r1,r2⟩=> ?_)
  by_cases hc:(0:Int)+wk nest []≤1200∧([]:List (List Int)).length+(pts nest []).length≤120
  ·rw [r1 hc,if_pos ⟨rfl,by omega,by simpa using hc.2⟩]
   exact Ev.some (by simp [aEe])
  ·rw [r2 hc,if_neg (fun h=>hc ⟨by omega,by simpa using h.2.2⟩)]
   exact Ev.some rfl
theorem G1{n:Nat}(hn:6000≤n){nest:List Loop}(h:SmN nest):kX n nest=some (aEe (NP nest)):=by
 refine Ev.eq ?_
 unfold kX
 refine Ev.jn (fun z=>z= !(lC nest&&decide (wk nest []≤1200))) (fun j hj=>aB (L1 (by omega) h) ?_) (fun z hz=> ?_)
 ·cases hv:lC nest with
  |false=>exact hj _ (by rw [hv];rfl)
  |true=>
   have hf:=aA7 hv
   refine aL (X9 hf nest n 0 [] 1200 (by have:=hf.1;omega) rfl (by omega) pt0 (by omega) (by omega)) (fun r ⟨r1,r2,r3,r4⟩=>hj _ ?_)
   rw [hv,Bool.true_and]
   by_cases hw:wk nest []≤1200
   ·rw [decide_eq_true hw,decide_eq_false (by rw [r1 hw];omega)];rfl
   ·rw [decide_eq_false hw,decide_eq_true (r2 (by omega))];rfl
 ·subst hz
  unfold NP
  cases hv:lC nest with
  |false=>exact Ev.some (by simp [aEe])
  |true=>
   have hf:=aA7 hv
   by_cases hw:wk nest []≤1200
   ·rw [decide_eq_true hw]
    refine aL (D1 hf nest n 0 [] [] (by have:=hf.1;omega) rfl (by omega) pt0 hw (by simp)) (fun r ⟨r1,r2⟩=> ?_)
    by_cases hl:(pts nest []).length≤120
    ·rw [r1 (by simpa using hl),if_pos ⟨rfl,hw,hl⟩]
     refine aH (fun h=>absurd h (by simp;omega)) (fun _=>Ev.some (by simp [aEe]))
    ·have:=r2 (by simp;omega)
     rw [if_neg (fun h=>hl h.2.2)]
     exact aH (fun _=>Ev.some rfl) (fun h=>absurd h (by omega))
   ·rw [decide_eq_false hw,if_neg (fun h=>hw h.2.1)]
    exact Ev.some rfl
def o0(s:List UInt8):Bool:=match s with
 | [b]=>decide (65≤b.toNat∧b.toNat≤68)
 |_=>false
theorem wU{s:List UInt8}(h:s.length≠1):o0 s=false:=by
 match s,h with
 | [],_=>rfl
 | [b],h=>exact absurd rfl h
 |_::_::_,_=>rfl
theorem aLm{s:List UInt8}(h:s.length=1): ∃b,s=[b]:=by
 match s,h with
 | [b],_=>exact⟨b,rfl⟩
theorem aGT(b:UInt8)(k:Nat)(hk:k<256):(b=UInt8.ofNat k)↔b.toNat=k:=by
 constructor
 ·intro h;rw [h];simp;omega
 ·intro h;rw [←h];simp
theorem W2(b:UInt8):Lib.contains [65,66,67,68] [b]=decide (65≤b.toNat∧b.toNat≤68):=by
 have e1:(b=65)↔b.toNat=65:=aGT b 65 (by omega)
 have e2:(b=66)↔b.toNat=66:=aGT b 66 (by omega)
 have e3:(b=67)↔b.toNat=67:=aGT b 67 (by omega)
 have e4:(b=68)↔b.toNat=68:=aGT b 68 (by omega)
 by_cases h1:b=65
 ·subst h1;decide
 by_cases h2:b=66
 ·subst h2;decide
 by_cases h3:b=67
 ·subst h3;decide
 by_cases h4:b=68
 ·subst h4;decide
 rw [e1] at h1;rw [e2] at h2;rw [e3] at h3;rw [e4] at h4
 rw [decide_eq_false (by omega)]
 rw [←e1] at h1;rw [←e2] at h2;rw [←e3] at h3;rw [←e4] at h4
 simp [Lib.contains,Lib.index,h1,h2,h3,h4]
theorem yQ(n:Nat)(s:List UInt8):n9 n s=some (o0 s):=by
 unfold n9
 by_cases h:s.length=1
 ·obtain⟨b,rfl⟩:=aLm h
  simp only [jn,m_contains]
  rw [if_pos (by simp),W2]
  rfl
 ·rw [decide_eq_false (show¬(s.length:Int)=1 by omega),wU h];rfl
theorem N7(b:UInt8):Op.bytesLess [b] [65]=decide (b.toNat<65):=by
 simp [Op.bytesLess,UInt8.lt_iff_toNat_lt]
theorem N6(b:UInt8):(Op.bytesLess [b] [68]||[b]==[68])=decide (b.toNat≤68):=by
 have e:(b=68)↔b.toNat=68:=aGT b 68 (by omega)
 by_cases h:b=68
 ·subst h;decide
 ·have h':b.toNat≠68:=fun e'=>h (e.2 e')
  have:([b]==[(68:UInt8)])=false:=by simp [h]
  rw [this,Bool.or_false]
  simp only [Op.bytesLess,Bool.and_false,Bool.or_false,UInt8.lt_iff_toNat_lt]
  apply decide_eq_decide.2
  show b.toNat<68↔_
  omega
def gQ(a:Access)(d:Int):Bool:=a.subs.all (fun x=>bX x d)&&(o0 a.array&&decide (1≤a.subs.length∧a.subs.length≤2))
theorem aGf{n:Nat}(hn:5000≤n){a:Affine}(ha:SmA a)(d:Int):i8 n a d=some (!bX a d):=O9 hn ha d
theorem wB{n:Nat}(hn:5000≤n){a:Access}(ha:H2 a.subs)(d:Int):l8 n a d=some (gQ a d):=by
 obtain⟨h0,h1⟩:=ha
 unfold l8
 rw [yQ,rZ]
 have hc:=sX (n:=n) (f:=fun q0=>i8 n q0 d) (p:=fun a=> !bX a d) (l:=a.subs) (fun x hx=>aGf hn (h1 x hx) d) (by omega) (by omega)
 simp only [jn,Option.bind]
 rw [hc]
 unfold gQ
 have e:(a.subs.any fun a=> !bX a d)= !(a.subs.all fun a=>bX a d):=by
  rw [List.all_eq_not_any_not];simp
 rw [e]
 cases o0 a.array<;>cases decide (1≤a.subs.length∧a.subs.length≤2)<;>simp
theorem v6{n:Nat}(hn:5000≤n){a:Access}(ha:H2 a.subs)(d:Int):lX n a d=some (gQ a d):=by
 obtain⟨h0,h1⟩:=ha
 refine Ev.eq ?_
 unfold lX
 refine nW (l:=a.subs) (p:=fun _ a=>bX a d) (by omega) (by omega) (fun again i x hx hgo hno=> ?_) (fun again hall=> ?_) (fun⟨i,x,hx,hp⟩=> ?_)
 ·have hi:=(List.getElem?_eq_some_iff.1 hx).1
  have hm:=h1 x (List.mem_of_getElem? hx)
  rw [decide_eq_true (show(i:Int)<(a.subs.length:Int) by omega)]
  refine bY (Ev.jn (fun z=>z= !bX x d) (fun j hj=>aB (aQ hx) (aB (lZ hn x hm) ?_)) (fun z hz=> ?_))
  ·cases ha:bL x with
   |false=>exact hj _ (by unfold bX;rw [ha];rfl)
   |true=>exact aB (wN hn hm) (hj _ (by unfold bX;rw [ha,ltd];simp))
  ·subst hz
   cases hb:bX x d with
   |true=>show Ev (again _) _;rw [aP (by omega)];exact hgo hb
   |false=>exact Ev.some (hno hb)
 ·rw [decide_eq_false (show¬(a.subs.length:Int)<(a.subs.length:Int) by omega)]
  have e:a.subs.all (fun a=>bX a d)=true:=List.all_eq_true.2 (fun c hc=>by obtain⟨i,hi⟩:=List.getElem?_of_mem hc;exact hall i c hi)
  unfold gQ
  rw [e,Bool.true_and]
  refine bZ (Ev.jn (fun z=>z=(o0 a.array&&decide (1≤a.subs.length∧a.subs.length≤2))) (fun j hj=> ?_) (fun z hz=>Ev.some hz))
  by_cases h:a.array.length=1
  ·rw [decide_eq_true (show(a.array.length:Int)=1 by omega)]
   obtain⟨b,hb⟩:=aLm h
   rw [hb] at hj⊢
   rw [N7,N6]
   show Ev (bif _ then _ else _) _
   simp only [o0] at hj⊢
   by_cases g1:b.toNat<65
   ·rw [decide_eq_true g1]
    exact hj _ (by rw [decide_eq_false (show¬(65≤b.toNat∧b.toNat≤68) by omega)];rfl)
   ·rw [decide_eq_false g1]
    by_cases g2:b.toNat≤68
    ·rw [decide_eq_true g2]
     rw [decide_eq_true (show 65≤b.toNat∧b.toNat≤68 by omega)] at hj⊢
     refine aH (fun h=>hj _ ?_) (fun h=>hj _ ?_)
     ·by_cases h2:a.subs.length≤2
      ·rw [decide_eq_true (show(a.subs.length:Int)≤2 by omega),decide_eq_true (by omega)];rfl
      ·rw [decide_eq_false (show¬(a.subs.length:Int)≤2 by omega),decide_eq_false (by omega)];rfl
     ·rw [decide_eq_false (by omega)];rfl
    ·rw [decide_eq_false g2]
     exact hj _ (by rw [decide_eq_false (show¬(65≤b.toNat∧b.toNat≤68) by omega)];rfl)
  ·rw [decide_eq_false (show¬(a.array.length:Int)=1 by omega)]
   exact hj _ (by rw [wU h];rfl)
 ·unfold gQ
  rw [List.all_eq_false.2 ⟨x,List.mem_of_getElem? hx,by rw [hp];simp⟩];rfl
def jM(a:Affine):Bool:=decide (a.coefs.length=0)&&decide (a.const=0)
def nE(a:Access):Bool:=decide (a.array=[])&&decide (a.subs.length=0)
theorem aJQ(k:Nat):decide ((k:Int)=0)=decide (k=0):=decide_eq_decide.2 (by omega)
theorem V6(n:Nat)(a:Affine):l6 n a=some (jM a):=by
 unfold l6 jM;rw [aJQ];cases decide (a.coefs.length=0)<;>rfl
theorem aBZ(n:Nat)(a:Affine):oM n a=some (jM a):=by
 unfold oM jM;rw [aJQ];cases decide (a.coefs.length=0)<;>rfl
theorem V7(n:Nat)(a:Access):iK n a=some (nE a):=by
 unfold iK nE;rw [aJQ];cases decide (a.array=[])<;>rfl
theorem aAN(n:Nat)(a:Access):lW n a=some (nE a):=by
 unfold lW nE;rw [aJQ];cases decide (a.array=[])<;>rfl
def f9(e:Expr)(d:Int):Bool:=
 if e.kind=2 then decide (e.num=0)&&(nE e.read&&bX e.index d)
 else if e.kind=3 then decide (e.num=0)&&(jM e.index&&gQ e.read d)
 else if e.kind=1 then decide (0≤e.num∧e.num≤99)&&(jM e.index&&nE e.read)
 else decide (e.num=0)&&(jM e.index&&nE e.read)
def iI(k:Int):Int:=if k=1∨k=2∨k=3 then 0 else if k=4∨k=5∨k=6 then 2 else-1
theorem aB0(n:Nat)(k:Int):tU n k=some (iI k):=by
 unfold tU iI
 by_cases h1:k=1
 ·subst h1;rfl
 by_cases h2:k=2
 ·subst h2;rfl
 by_cases h3:k=3
 ·subst h3;rfl
 by_cases h4:k=4
 ·subst h4;rfl
 by_cases h5:k=5
 ·subst h5;rfl
 by_cases h6:k=6
 ·subst h6;rfl
 simp [jn,h1,h2,h3,h4,h5,h6]
theorem aDt{n:Nat}(hn:5000≤n){e:Expr}(h1:SmA e.index)(h2:H2 e.read.subs)(d:Int):xY n e d=some (f9 e d):=by
 unfold xY f9
 rw [aAN,aBZ,lZ hn _ h1,wN hn h1,v6 hn h2]
 by_cases k2:e.kind=2
 ·rw [if_pos k2,decide_eq_true k2]
  simp only [jn,Option.bind,cond_true,bX]
  cases decide (e.num=0)<;>cases nE e.read<;>cases bL e.index<;>simp
 ·rw [if_neg k2,decide_eq_false k2]
  by_cases k3:e.kind=3
  ·rw [if_pos k3,decide_eq_true k3]
   simp only [jn,Option.bind,cond_true,cond_false]
   cases decide (e.num=0)<;>cases jM e.index<;>simp
  ·rw [if_neg k3,decide_eq_false k3]
   by_cases k1:e.kind=1
   ·rw [if_pos k1,decide_eq_true k1]
    simp only [jn,Option.bind,cond_true,cond_false]
    by_cases g1:0≤e.num<;>by_cases g2:e.num≤99<;>cases jM e.index<;>simp [g1,g2]
   ·rw [if_neg k1,decide_eq_false k1]
    simp only [jn,Option.bind,cond_false]
    cases decide (e.num=0)<;>cases jM e.index<;>simp
end Go.Lift
