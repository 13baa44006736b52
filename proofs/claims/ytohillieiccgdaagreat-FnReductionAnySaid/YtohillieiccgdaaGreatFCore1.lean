/- Plain facts on sums of products, on ranges, on the points of a nest. -/
import Derived.Test.YtohillieiccgdaaGreatFLawDraw
set_option maxRecDepth 100000
set_option linter.unusedVariables false
namespace Go.Lift
open Go
def dot:List Int→List Int→Int
 |c::cs,x::xs=>c*x+dot cs xs
 |_,_=>0
def I4(m:Int)(x:Int):Prop:= -m≤x∧x≤m
theorem aEB{a b c x:Int}(ha:0≤a)(hb:0≤b)(h1:I4 a c)(h2:I4 b x):I4 (a*b) (c*x):=by
 obtain⟨p1,p2⟩:=h1
 obtain⟨q1,q2⟩:=h2
 constructor
 ·have h:=Int.mul_nonneg (show 0≤a+c by omega) (show 0≤b+x by omega)
  have k:=Int.mul_nonneg (show 0≤a-c by omega) (show 0≤b-x by omega)
  have e1:(a+c)*(b+x)=a*b+a*x+c*b+c*x:=by rw [Int.add_mul,Int.mul_add,Int.mul_add];omega
  have e2:(a-c)*(b-x)=a*b-a*x-c*b+c*x:=by rw [Int.sub_mul,Int.mul_sub,Int.mul_sub];omega
  rw [e1] at h;rw [e2] at k;omega
 ·have h:=Int.mul_nonneg (show 0≤a+c by omega) (show 0≤b-x by omega)
  have k:=Int.mul_nonneg (show 0≤a-c by omega) (show 0≤b+x by omega)
  have e1:(a+c)*(b-x)=a*b-a*x+c*b-c*x:=by rw [Int.add_mul,Int.mul_sub,Int.mul_sub];omega
  have e2:(a-c)*(b+x)=a*b+a*x-c*b-c*x:=by rw [Int.sub_mul,Int.mul_add,Int.mul_add];omega
  rw [e1] at h;rw [e2] at k;omega
theorem T3(cs:List Int):dot cs []=0:=by cases cs<;>rfl
theorem aAf: ∀{cs xs:List Int} {c x:Int},cs[xs.length]? =some c→dot cs (xs++[x])=dot cs xs+c*x
 | [],xs,c,x,h=>by simp at h
 |d::cs,[],c,x,h=>by simp at h;subst h;simp [dot,T3]
 |d::cs,y::xs,c,x,h=>by
  have h:cs[xs.length]? =some c:=by simpa using h
  simp only [List.cons_append,dot];rw [aAf h];omega
theorem aAe{cs xs:List Int}{i:Nat}{c x:Int}(hc:cs[i]? =some c)(hx:xs[i]? =some x):dot cs (xs.take (i+1))=dot cs (xs.take i)+c*x:=by
 have hi:=(List.getElem?_eq_some_iff.1 hx).1
 rw [List.take_add_one,hx]
 exact aAf (by simpa [Nat.min_eq_left (Nat.le_of_lt hi)] using hc)
theorem aFq{M:Int}(hM:0≤M): ∀{cs xs:List Int},(∀c∈cs,I4 9 c)→(∀x∈xs,I4 M x)→I4 (9*M*xs.length) (dot cs xs)
 | [],xs,_,_=>by
  have:0≤9*M*(xs.length:Int):=Int.mul_nonneg (by omega) (by omega)
  simp only [dot,I4];omega
 |d::cs,[],_,_=>by simp [dot,I4]
 |d::cs,y::xs,hc,hx=>by
  have h1:=aFq hM (cs:=cs) (xs:=xs) (fun c h=>hc c (by simp [h])) (fun x h=>hx x (by simp [h]))
  have h2:=aEB (by omega) hM (hc d (by simp)) (hx y (by simp))
  have e:9*M*((y::xs).length:Int)=9*M*(xs.length:Int)+9*M:=by simp [Int.mul_add]
  rw [e]
  simp only [dot,I4] at*
  omega
def jK(lo hi:Int):List Int:=(List.range (hi-lo).toNat).map (fun(i:Nat)=>lo+(i:Int))
theorem aGk{lo hi v:Int}:v∈jK lo hi↔lo≤v∧v<hi:=by
 simp only [jK,List.mem_map,List.mem_range]
 constructor
 ·rintro⟨i,hi,rfl⟩;omega
 ·intro h;exact⟨(v-lo).toNat,by omega,by omega⟩
theorem gB{lo hi:Int}(h:hi≤lo):jK lo hi=[]:=by
 unfold jK;rw [show(hi-lo).toNat=0 by omega];rfl
theorem l9{lo hi:Int}(h:lo≤hi):jK lo (hi+1)=jK lo hi++[hi]:=by
 unfold jK
 rw [show(hi+1-lo).toNat=(hi-lo).toNat+1 by omega,List.range_succ,List.map_append]
 simp;omega
theorem sL{lo v hi:Int}(h1:lo≤v)(h2:v<hi):jK lo hi=jK lo v++v::jK (v+1) hi:=by
 obtain⟨k,hk⟩: ∃k:Nat,hi=v+1+k:=⟨(hi-v-1).toNat,by omega⟩
 subst hk
 clear h2
 induction k with
 |zero=>
  rw [show v+1+((0:Nat):Int)=v+1 by omega,l9 h1,gB (Int.le_refl _)]
 |succ k ih=>
  rw [show v+1+((k+1:Nat):Int)=v+1+(k:Int)+1 by omega,l9 (by omega),ih,l9 (by omega)]
  simp
theorem wF{α:Type}{f:α→Option Bool}{p:α→Bool}{l:List α}(hf: ∀x∈l,f x=some (p x)){n:Nat}(hl:l.length<n)(hl2:l.length≤1000000):
  ∃r:Int,aK (fun again2 (x1:Int)=>bif decide (x1<(l.length:Int)) then(Option.bind (ix l x1) fun x3=>Option.bind (f x3) fun x4=>bif x4 then(some x1) else(again2 (wr (x1+1)))) else(some (-1))) n 0=some r∧decide (0≤r)=l.any p:=by
 suffices h:Ev (aK (fun again2 (x1:Int)=>bif decide (x1<(l.length:Int)) then(Option.bind (ix l x1) fun x3=>Option.bind (f x3) fun x4=>bif x4 then(some x1) else(again2 (wr (x1+1)))) else(some (-1))) n 0) (fun r=>decide (0≤r)=l.any p) by exact h
 refine Ev.loop (fun x:Int=>0≤x∧x≤l.length∧(l.take x.toNat).any p=false) (fun x:Int=>l.length-x.toNat) ?_ n 0 ⟨by omega,by omega,by simp⟩ (by simp;omega)
 rintro again x ⟨h0,h1,h2⟩ hr
 refine aF (fun hlt=> ?_) (fun hge=> ?_)
 ·obtain⟨y,hy,hy2⟩:=iT h0 hlt
  have hm:=List.mem_of_getElem? hy2
  refine aA hy (aA (hf y hm) (Ev.cond (fun ht=>Ev.some ?_) (fun hfl=> ?_)))
  ·rw [show l.any p=true from List.any_eq_true.2 ⟨y,hm,ht⟩];simp [h0]
  ·rw [aI (by omega)]
   refine hr _ ⟨by omega,by omega,?_⟩ (by omega)
   rw [show(x+1).toNat=x.toNat+1 by omega,List.take_add_one,hy2]
   simp [h2,hfl]
 ·refine Ev.some ?_
  have hx:x.toNat=l.length:=by omega
  rw [hx,List.take_length] at h2
  rw [h2];simp
theorem lA{f:Int→Option Bool}{p:Int→Bool}{l:List Int}(hf: ∀x∈l,f x=some (p x)){n:Nat}(hl:l.length<n)(hl2:l.length≤1000000):bG n l f=some (l.any p):=by
 obtain⟨r,h1,h2⟩:=wF hf hl hl2
 unfold bG gU
 rw [h1,←h2];rfl
theorem pY{f:Affine→Option Bool}{p:Affine→Bool}{l:List Affine}(hf: ∀x∈l,f x=some (p x)){n:Nat}(hl:l.length<n)(hl2:l.length≤1000000):b6 n l f=some (l.any p):=by
 obtain⟨r,h1,h2⟩:=wF hf hl hl2
 unfold b6 eQ
 rw [h1,←h2];rfl
theorem J7{f:Stmt→Option Bool}{p:Stmt→Bool}{l:List Stmt}(hf: ∀x∈l,f x=some (p x)){n:Nat}(hl:l.length<n)(hl2:l.length≤1000000):dF n l f=some (l.any p):=by
 obtain⟨r,h1,h2⟩:=wF hf hl hl2
 unfold dF gC
 rw [h1,←h2];rfl
theorem pZ{f:Access→Option Bool}{p:Access→Bool}{l:List Access}(hf: ∀x∈l,f x=some (p x)){n:Nat}(hl:l.length<n)(hl2:l.length≤1000000):bH n l f=some (l.any p):=by
 obtain⟨r,h1,h2⟩:=wF hf hl hl2
 unfold bH cS
 rw [h1,←h2];rfl
theorem lH{α:Type}{l:List α}{p:Nat→α→Bool}{Q:Bool→Prop}{body:(Int→Option Bool)→Int→Option Bool}{n:Nat}(hl:l.length<n)(hl2:l.length≤1000000)
  (hstep: ∀again (i:Nat) x,l[i]? =some x→(p i x=true→Ev (again ((i:Int)+1)) Q)→(p i x=false→Q false)→Ev (body again (i:Int)) Q)
  (hend: ∀again,(∀(i:Nat) x,l[i]? =some x→p i x=true)→Ev (body again (l.length:Int)) Q) (hbad:(∃(i:Nat) (x:α),l[i]? =some x∧p i x=false)→Q false):Ev (aK body n 0) Q:=by
 refine Ev.loop (fun x:Int=> ∃i:Nat,x=i∧i≤l.length∧ ∀(j:Nat) y,j<i→l[j]? =some y→p j y=true) (fun x:Int=>l.length-x.toNat) ?_ n 0 ⟨0,rfl,by omega,fun j y h=>by omega⟩ (by simp;omega)
 rintro again x ⟨i,rfl,hi,ha⟩ hr
 by_cases hlt:i<l.length
 ·have hx:=List.getElem?_eq_getElem hlt
  refine hstep again i _ hx (fun hp=>hr _ ⟨i+1,by omega,by omega,fun j y hj hy=> ?_⟩ (by omega)) (fun hp=>hbad ⟨i,_,hx,hp⟩)
  by_cases hji:j=i
  ·subst hji;rw [hx] at hy;cases hy;exact hp
  ·exact ha j y (by omega) hy
 ·have hil:i=l.length:=by omega
  subst hil
  exact hend again (fun j y hy=>ha j y (List.getElem?_eq_some_iff.1 hy).1 hy)
def fJ(a:Affine):Bool:=decide (a.coefs.length=4)&&(decide (-99≤a.const∧a.const≤99)&&a.coefs.all (fun c=>decide (-9≤c∧c≤9)))
theorem wI{a:Affine}(h:fJ a=true):a.coefs.length=4∧I4 99 a.const∧ ∀c∈a.coefs,I4 9 c:=by
 simp only [fJ,Bool.and_eq_true,decide_eq_true_eq,List.all_eq_true] at h
 exact⟨h.1,h.2.1,h.2.2⟩
theorem dW(n:Nat)(x a b:Int):bY n x a b=some (decide (a≤x∧x≤b)):=by
 unfold bY
 by_cases h1:a≤x<;>by_cases h2:x≤b<;>simp [jn,h1,h2]
theorem oG{n:Nat}(hn:5000≤n)(a:Affine)(ha:a.coefs.length≤1000):eB n a=some (fJ a):=by
 have hf: ∀x∈a.coefs,dY n x=some (!decide (-9≤x∧x≤9)):=fun x _=>by unfold dY;rw [dW];rfl
 have hc:=lA (n:=n) hf (by omega) (by omega)
 unfold eB sS
 rw [dW]
 simp only [jn,Option.bind]
 rw [hc]
 unfold fJ
 have e:(a.coefs.any fun x=> !decide (-9≤x∧x≤9))= !(a.coefs.all fun c=>decide (-9≤c∧c≤9)):=by
  rw [List.all_eq_not_any_not];simp
 rw [e]
 by_cases h1:a.coefs.length=4
 ·rw [decide_eq_true (show(a.coefs.length:Int)=4 by omega),decide_eq_true h1]
  generalize decide (-99≤a.const∧a.const≤99)=b
  cases b<;>simp
 ·rw [decide_eq_false (show¬(a.coefs.length:Int)=4 by omega),decide_eq_false h1];rfl
theorem qK(n:Nat)(x m:Int)(hm:0≤m∧m≤1000000000):hF n x m=some (decide (-m≤x∧x≤m)):=by
 unfold hF
 rw [aI (by omega)]
 by_cases h1: -m≤x<;>by_cases h2:x≤m
 ·simp [jn,h1,h2]
 ·simp [jn,h1,h2]
 ·simp [jn,h1,h2]
 ·simp [jn,h1,h2]
theorem jJ{n:Nat}(hn:5000≤n)(a:Affine)(ha:a.coefs.length≤1000):dH n a=some (fJ a):=by
 refine Ev.eq ?_
 unfold dH
 refine lH (l:=a.coefs) (p:=fun _ c=>decide (-9≤c∧c≤9)) (by omega) (by omega) (fun again i x hx hgo hno=> ?_) (fun again hall=> ?_) (fun⟨i,x,hx,hp⟩=> ?_)
 ·rw [decide_eq_true (show(i:Int)<(a.coefs.length:Int) by have:=(List.getElem?_eq_some_iff.1 hx).1;omega)]
  refine aA (aL hx) (aA (qK n x 9 (by omega)) ?_)
  have hi:=(List.getElem?_eq_some_iff.1 hx).1
  cases hp:decide (-9≤x∧x≤9) with
  |true=>show Ev (again _) _;rw [aI (by omega)];exact hgo hp
  |false=>exact Ev.some (hno hp)
 ·rw [decide_eq_false (show¬(a.coefs.length:Int)<(a.coefs.length:Int) by omega)]
  have e:a.coefs.all (fun c=>decide (-9≤c∧c≤9))=true:=List.all_eq_true.2 (fun c hc=>by obtain⟨i,hi⟩:=List.getElem?_of_mem hc;exact hall i c hi)
  refine Ev.cond (fun h=>(by cases h)) (fun _=> ?_)
  unfold fJ
  rw [e]
  refine Ev.jn (fun z:Bool=>z=(decide (a.coefs.length=4)&&(decide (-99≤a.const∧a.const≤99)&&true))) (fun j hj=> ?_) (fun z hz=>Ev.some hz)
  refine aF (fun h=>aA (qK n a.const 99 (by omega)) (hj _ ?_)) (fun h=>hj _ ?_)
  ·rw [decide_eq_true (show a.coefs.length=4 by omega)];simp
  ·rw [decide_eq_false (show¬a.coefs.length=4 by omega)];rfl
 ·unfold fJ
  have e:a.coefs.all (fun c=>decide (-9≤c∧c≤9))=false:=List.all_eq_false.2 ⟨x,List.mem_of_getElem? hx,by rw [hp];simp⟩
  rw [e];simp
def eC(a:Affine)(p:List Int):Int:=a.const+dot a.coefs p
def ptB(M:Int)(p:List Int):Prop:= ∀x∈p,I4 M x
theorem sU{a:Affine}(ha:fJ a=true){p:List Int}(hp:p.length≤4){M:Int}(hM:0≤M∧M≤1000000000)(hB:ptB M p)(i:Nat)(hi:i≤p.length):I4 1000000000000 (a.const+dot a.coefs (p.take i)):=by
 obtain⟨h1,h2,h3⟩:=wI ha
 have h4:=aFq (M:=M) hM.1 (cs:=a.coefs) (xs:=p.take i) h3 (fun x hx=>hB x (List.mem_of_mem_take hx))
 have h5:(p.take i).length≤4:=by simp;omega
 have h6:9*M*((p.take i).length:Int)≤9*M*4:=Int.mul_le_mul_of_nonneg_left (by omega) (by omega)
 simp only [I4] at*
 omega
theorem aDi{n:Nat}(hn:5000≤n){a:Affine}(ha:fJ a=true){p:List Int}(hp:p.length≤4){M:Int}(hM:0≤M∧M≤1000000000)(hB:ptB M p):bX n a p=some (eC a p):=by
 obtain⟨h1,h2,h3⟩:=wI ha
 refine Ev.eq ?_
 unfold bX
 refine Ev.loop (fun x:Int×Int=> ∃i:Nat,x.2=i∧i≤p.length∧x.1=a.const+dot a.coefs (p.take i)) (fun x=>p.length-x.2.toNat) ?_ n _ ⟨0,rfl,by omega,by simp [T3]⟩ (by simp;omega)
 rintro again ⟨x,k⟩ ⟨i,hk,hi,hx⟩ hr
 dsimp only at hk hx⊢
 subst hk
 refine aF (fun hlt=> ?_) (fun hge=>Ev.some ?_)
 ·have hlt:i<p.length:=by omega
  have hp2:=List.getElem?_eq_getElem hlt
  have hc2:=List.getElem?_eq_getElem (show i<a.coefs.length by omega)
  have hd:=aAe hc2 hp2
  have e1:=sU ha hp hM hB i hi
  have e2:=sU ha hp hM hB (i+1) (by omega)
  rw [hd] at e2
  have e3:=aEB (by omega) hM.1 (h3 _ (List.mem_of_getElem? hc2)) (hB _ (List.mem_of_getElem? hp2))
  refine aA (aL hp2) (aA (aL hc2) ?_)
  simp only [I4] at e1 e2 e3
  rw [aI (n:=a.coefs[i]*p[i]) (by omega),aI (by omega),aI (by omega)]
  refine hr _ ⟨i+1,by dsimp only;omega,by omega,?_⟩ (by dsimp only;omega)
  dsimp only
  rw [hd,hx];omega
 ·have:i=p.length:=by omega
  rw [hx,this,List.take_length];rfl
theorem aC0{n:Nat}(hn:5000≤n){a:Affine}(ha:fJ a=true){p:List Int}(hp:p.length≤4){M:Int}(hM:0≤M∧M≤1000000000)(hB:ptB M p):fM n a p=some (eC a p):=by
 obtain⟨h1,h2,h3⟩:=wI ha
 refine Ev.eq ?_
 unfold fM
 refine Ev.loop (fun x:Int×Int=> ∃i:Nat,x.2=i∧i≤p.length∧x.1=a.const+dot a.coefs (p.take i)) (fun x=>p.length-x.2.toNat) ?_ n _ ⟨0,rfl,by omega,by simp [T3]⟩ (by simp;omega)
 rintro again ⟨x,k⟩ ⟨i,hk,hi,hx⟩ hr
 dsimp only at hk hx⊢
 subst hk
 refine Ev.jn (fun z=>z=decide (i<p.length)) (fun j hj=>aF (fun h=>hj _ ?_) (fun h=>hj _ ?_)) (fun z hz=> ?_)
 ·rw [decide_eq_true (show i<p.length by omega),decide_eq_true (show(i:Int)<(a.coefs.length:Int) by omega)]
 ·rw [decide_eq_false (show¬i<p.length by omega)]
 subst hz
 refine aF (fun hlt=> ?_) (fun hge=>Ev.some ?_)
 ·have hp2:=List.getElem?_eq_getElem hlt
  have hc2:=List.getElem?_eq_getElem (show i<a.coefs.length by omega)
  have hd:=aAe hc2 hp2
  have e1:=sU ha hp hM hB i hi
  have e2:=sU ha hp hM hB (i+1) (by omega)
  rw [hd] at e2
  have e3:=aEB (by omega) hM.1 (h3 _ (List.mem_of_getElem? hc2)) (hB _ (List.mem_of_getElem? hp2))
  refine aA (aL hc2) (aA (aL hp2) ?_)
  simp only [I4] at e1 e2 e3
  rw [aI (n:=a.coefs[i]*p[i]) (by omega),aI (by omega),aI (by omega)]
  refine hr _ ⟨i+1,by dsimp only;omega,by omega,?_⟩ (by dsimp only;omega)
  dsimp only
  rw [hd,hx];omega
 ·have:i=p.length:=by omega
  rw [hx,this,List.take_length];rfl
theorem bW{R:Type}{Q:R→Prop}{A B:Option R}(h:Ev A Q):Ev (bif true then A else B) Q:=h
theorem bM{R:Type}{Q:R→Prop}{A B:Option R}(h:Ev B Q):Ev (bif false then A else B) Q:=h
def fU:List Int→Nat
 | []=>0
 |c::cs=>if fU cs=0 then(if c=0 then 0 else 1) else fU cs+1
theorem yA: ∀(l:List Int) (c:Int),fU (l++[c])=if c=0 then fU l else l.length+1
 | [],c=>by simp [fU]
 |d::l,c=>by
  have ih:=yA l c
  simp only [List.cons_append,fU,ih]
  by_cases hc:c=0
  ·simp [hc]
  ·simp [hc]
theorem xZ{l:List Int}{i:Nat}{c:Int}(h:l[i]? =some c):fU (l.take (i+1))=if c=0 then fU (l.take i) else i+1:=by
 have hi:=(List.getElem?_eq_some_iff.1 h).1
 rw [List.take_add_one,h]
 show fU (l.take i++[c])=_
 rw [yA,List.length_take,Nat.min_eq_left (Nat.le_of_lt hi)]
def SmA(a:Affine):Prop:=a.coefs.length≤1000
def sC(l:List Affine):Prop:=l.length≤1000∧ ∀a∈l,SmA a
theorem tS{n:Nat}(hn:5000≤n){a:Affine}(ha:SmA a):jI n a=some (fU a.coefs:Int):=by
 have ha:a.coefs.length≤1000:=ha
 refine Ev.eq ?_
 unfold jI
 refine Ev.loop (fun x:Int×Int=> ∃i:Nat,x.2=i∧i≤a.coefs.length∧x.1=(fU (a.coefs.take i):Int)) (fun x=>a.coefs.length-x.2.toNat) ?_ n _ ⟨0,rfl,by omega,by simp [fU]⟩ (by simp;omega)
 rintro again ⟨x,k⟩ ⟨i,hk,hi,hx⟩ hr
 dsimp only at hk hx⊢
 subst hk
 refine aF (fun hlt=> ?_) (fun hge=>Ev.some ?_)
 ·have hlt:i<a.coefs.length:=by omega
  have hc:=List.getElem?_eq_getElem hlt
  have hd:=xZ hc
  refine Ev.jn (fun z:Int=>z=(fU (a.coefs.take (i+1)):Int)) (fun j hj=>aA (aL hc) (eE (fun h0=>hj _ ?_) (fun h0=>hj _ ?_))) (fun z hz=> ?_)
  ·rw [hd,if_neg h0,aI (by omega)];omega
  ·rw [hd,if_pos h0,hx]
  ·rw [aI (by omega)]
   exact hr _ ⟨i+1,by dsimp only;omega,by omega,hz⟩ (by dsimp only;omega)
 ·have:i=a.coefs.length:=by omega
  rw [hx,this,List.take_length]
theorem D6{n:Nat}(hn:5000≤n){a:Affine}(ha:SmA a):dQ n a=some (fU a.coefs:Int):=by
 have ha:a.coefs.length≤1000:=ha
 refine Ev.eq ?_
 unfold dQ
 refine Ev.loop (fun x:Int=> ∃i:Nat,x=i∧i≤a.coefs.length∧fU a.coefs=fU (a.coefs.take i)) (fun x=>x.toNat) ?_ n _ ⟨a.coefs.length,rfl,by omega,by rw [List.take_length]⟩ (by simp;omega)
 rintro again x ⟨i,rfl,hi,hx⟩ hr
 cases i with
 |zero=>
  refine Ev.jn (fun z=>z=false) (fun j hj=>aF (fun h=>absurd h (by decide)) (fun h=>hj _ rfl)) (fun z hz=> ?_)
  subst hz
  exact Ev.some (by rw [hx];rfl)
 |succ i=>
  have hlt:i<a.coefs.length:=by omega
  have hc:=List.getElem?_eq_getElem hlt
  have hd:=xZ hc
  have e:wr (((i+1:Nat):Int)-1)=(i:Int):=by rw [aI (by omega)];omega
  rw [e]
  refine Ev.jn (fun z=>z=decide (a.coefs[i]=0)) (fun j hj=>aF (fun h=>aA (aL hc) (hj _ rfl)) (fun h=>absurd (show(0:Int)<((i+1:Nat):Int) by omega) h)) (fun z hz=> ?_)
  subst hz
  refine aF (fun h0=> ?_) (fun h0=>Ev.some ?_)
  ·exact hr _ ⟨i,rfl,by omega,by rw [hx,hd,if_pos h0]⟩ (by omega)
  ·rw [hx,hd,if_neg h0]
def bR(a:Affine)(d:Int):Bool:=fJ a&&decide ((fU a.coefs:Int)≤d)
def cC(l:List Affine)(d:Int):Bool:=l.all (fun a=>bR a d)&&decide (1≤l.length∧l.length≤2)
theorem ltd(a b:Int):decide (a<b)= !decide (b≤a):=by
 by_cases h:a<b
 ·rw [decide_eq_true h,decide_eq_false (by omega)];rfl
 ·rw [decide_eq_false h,decide_eq_true (by omega)];rfl
theorem xS{n:Nat}(hn:5000≤n){l:List Affine}(hl:sC l)(d:Int):nT n l d=some (cC l d):=by
 obtain⟨h0,h1⟩:=hl
 refine Ev.eq ?_
 unfold nT
 refine lH (l:=l) (p:=fun _ a=>bR a d) (by omega) (by omega) (fun again i x hx hgo hno=> ?_) (fun again hall=> ?_) (fun⟨i,x,hx,hp⟩=> ?_)
 ·have hi:=(List.getElem?_eq_some_iff.1 hx).1
  have hm:=h1 x (List.mem_of_getElem? hx)
  rw [decide_eq_true (show(i:Int)<(l.length:Int) by omega)]
  refine bW (Ev.jn (fun z=>z= !bR x d) (fun j hj=>aA (aL hx) (aA (jJ hn x hm) ?_)) (fun z hz=> ?_))
  ·cases ha:fJ x with
   |false=>exact hj _ (by unfold bR;rw [ha];rfl)
   |true=>exact aA (tS hn hm) (hj _ (by unfold bR;rw [ha,ltd];simp))
  ·subst hz
   cases hb:bR x d with
   |true=>show Ev (again _) _;rw [aI (by omega)];exact hgo hb
   |false=>exact Ev.some (hno hb)
 ·rw [decide_eq_false (show¬(l.length:Int)<(l.length:Int) by omega)]
  have e:l.all (fun a=>bR a d)=true:=List.all_eq_true.2 (fun c hc=>by obtain⟨i,hi⟩:=List.getElem?_of_mem hc;exact hall i c hi)
  unfold cC
  rw [e]
  refine bM (Ev.jn (fun z=>z=decide (1≤l.length∧l.length≤2)) (fun j hj=>aF (fun h=>hj _ ?_) (fun h=>hj _ ?_)) (fun z hz=>Ev.some (by rw [hz];rfl)))
  ·by_cases h2:l.length≤2
   ·rw [decide_eq_true (show(l.length:Int)≤2 by omega),decide_eq_true (by omega)]
   ·rw [decide_eq_false (show¬(l.length:Int)≤2 by omega),decide_eq_false (by omega)]
  ·rw [decide_eq_false (by omega)]
 ·unfold cC
  rw [List.all_eq_false.2 ⟨x,List.mem_of_getElem? hx,by rw [hp];simp⟩];rfl
theorem D7{n:Nat}(hn:5000≤n){a:Affine}(ha:SmA a)(d:Int):eS n a d=some (!bR a d):=by
 unfold eS
 rw [oG hn a ha]
 simp only [jn,Option.bind]
 cases hb:fJ a with
 |false=>simp [bR,hb]
 |true=>
  rw [D6 hn ha]
  simp only [bR,hb,Bool.not_true,cond_false,Bool.true_and]
  rw [ltd]
theorem pD(n k:Nat):bY n (k:Int) 1 2=some (decide (1≤k∧k≤2)):=by
 rw [dW]
 congr 1
 by_cases h:1≤k∧k≤2
 ·rw [decide_eq_true h,decide_eq_true (by omega)]
 ·rw [decide_eq_false h,decide_eq_false (by omega)]
theorem tG{n:Nat}(hn:5000≤n){l:List Affine}(hl:sC l)(d:Int):jN n l d=some (cC l d):=by
 obtain⟨h0,h1⟩:=hl
 unfold jN
 rw [pD]
 have hc:=pY (n:=n) (f:=fun q0=>eS n q0 d) (p:=fun a=> !bR a d) (l:=l) (fun x hx=>D7 hn (h1 x hx) d) (by omega) (by omega)
 simp only [jn,Option.bind]
 rw [hc]
 unfold cC
 have e:(l.any fun a=> !bR a d)= !(l.all fun a=>bR a d):=by
  rw [List.all_eq_not_any_not];simp
 rw [e]
 cases decide (1≤l.length∧l.length≤2)<;>simp
def D4{α:Type}(p:Nat→α→Bool)(l:List α):Bool:=l.zipIdx.all fun q=>p q.2 q.1
theorem mW{α:Type}{p:Nat→α→Bool}{l:List α}(h: ∀(i:Nat) x,l[i]? =some x→p i x=true):D4 p l=true:=
 List.all_eq_true.2 (fun q hq=>h q.2 q.1 (List.mem_zipIdx_iff_getElem?.1 hq))
theorem kZ{α:Type}{p:Nat→α→Bool}{l:List α}{i:Nat}{x:α}(h:l[i]? =some x)(hp:p i x=false):D4 p l=false:=
 List.all_eq_false.2 ⟨(x,i),List.mem_zipIdx_iff_getElem?.2 h,by rw [hp];simp⟩
theorem D3{α:Type}{p:Nat→α→Bool}{l:List α}(h:D4 p l=true){i:Nat}{x:α}(hx:l[i]? =some x):p i x=true:=
 List.all_eq_true.1 h (x,i) (List.mem_zipIdx_iff_getElem?.2 hx)
def iR(nest:List Loop):Bool:=D4 (fun i l=>cC l.lo (i:Int)&&cC l.hi (i:Int)) nest&&decide (nest.length≤4)
def SmN(nest:List Loop):Prop:=nest.length≤1000∧ ∀l∈nest,sC l.lo∧sC l.hi
theorem D9{n:Nat}(hn:5000≤n){nest:List Loop}(h:SmN nest):kM n nest=some (iR nest):=by
 obtain⟨h0,h1⟩:=h
 refine Ev.eq ?_
 unfold kM
 refine lH (l:=nest) (p:=fun i l=>cC l.lo (i:Int)&&cC l.hi (i:Int)) (by omega) (by omega) (fun again i x hx hgo hno=> ?_) (fun again hall=> ?_) (fun⟨i,x,hx,hp⟩=> ?_)
 ·have hi:=(List.getElem?_eq_some_iff.1 hx).1
  obtain⟨m1,m2⟩:=h1 x (List.mem_of_getElem? hx)
  rw [decide_eq_true (show(i:Int)<(nest.length:Int) by omega)]
  refine aA (aL hx) (Ev.jn (fun z=>z= !(cC x.lo (i:Int)&&cC x.hi (i:Int))) (fun j hj=>aA (tG hn m1 _) ?_) (fun z hz=> ?_))
  ·cases ha:cC x.lo (i:Int) with
   |false=>exact hj _ (by rw [ha];rfl)
   |true=>exact aA (tG hn m2 _) (hj _ (by rw [ha];rfl))
  ·subst hz
   cases hb:(cC x.lo (i:Int)&&cC x.hi (i:Int)) with
   |true=>show Ev (again _) _;rw [aI (by omega)];exact hgo hb
   |false=>exact Ev.some (hno hb)
 ·rw [decide_eq_false (show¬(nest.length:Int)<(nest.length:Int) by omega)]
  refine Ev.some ?_
  unfold iR
  rw [mW hall,Bool.true_and]
  exact decide_eq_decide.2 (by omega)
 ·unfold iR;rw [kZ hx hp];rfl
theorem zZ{n:Nat}(hn:5000≤n){nest:List Loop}(h:SmN nest):kE n nest=some (iR nest):=by
 obtain⟨h0,h1⟩:=h
 unfold kE
 by_cases h4:nest.length≤4
 ·rw [decide_eq_true (show(nest.length:Int)≤4 by omega)]
  refine Ev.eq ?_
  refine lH (l:=nest) (p:=fun i l=>cC l.lo (i:Int)&&cC l.hi (i:Int)) (by omega) (by omega) (fun again i x hx hgo hno=> ?_) (fun again hall=> ?_) (fun⟨i,x,hx,hp⟩=> ?_)
  ·have hi:=(List.getElem?_eq_some_iff.1 hx).1
   obtain⟨m1,m2⟩:=h1 x (List.mem_of_getElem? hx)
   rw [decide_eq_true (show(i:Int)<(nest.length:Int) by omega)]
   refine Ev.jn (fun z=>z=true) (fun j hj=>bW (hj _ rfl)) (fun z hz=> ?_)
   subst hz
   refine bW (Ev.jn (fun z=>z= !(cC x.lo (i:Int)&&cC x.hi (i:Int))) (fun j hj=>aA (aL hx) (aA (xS hn m1 _) ?_)) (fun z hz=> ?_))
   ·cases ha:cC x.lo (i:Int) with
    |false=>exact hj _ (by rw [ha];rfl)
    |true=>exact aA (xS hn m2 _) (hj _ (by rw [ha];rfl))
   ·subst hz
    cases hb:(cC x.lo (i:Int)&&cC x.hi (i:Int)) with
    |true=>show Ev (again _) _;rw [aI (by omega)];exact hgo hb
    |false=>exact Ev.some (hno hb)
  ·rw [decide_eq_false (show¬(nest.length:Int)<(nest.length:Int) by omega)]
   refine Ev.jn (fun z=>z=false) (fun j hj=>bM (hj _ rfl)) (fun z hz=> ?_)
   subst hz
   refine Ev.some ?_
   unfold iR
   rw [mW hall,decide_eq_true h4];rfl
  ·unfold iR;rw [kZ hx hp];rfl
 ·obtain⟨k,rfl⟩: ∃k,n=k+1:=⟨n-1,by omega⟩
  rw [decide_eq_false (show¬(nest.length:Int)≤4 by omega)]
  unfold iR
  rw [decide_eq_false h4,Bool.and_false]
  simp only [aK,jn]
  cases decide ((0:Int)<(nest.length:Int))<;>rfl
def mx:List Int→Int
 | []=>0
 |x::xs=>xs.foldl max x
def mn:List Int→Int
 | []=>0
 |x::xs=>xs.foldl min x
theorem aGs{l:List Int}(h:l≠[])(x:Int):mx (l++[x])=max (mx l) x:=by
 cases l with
 |nil=>exact absurd rfl h
 |cons a l=>simp [mx,List.foldl_append]
theorem aGu{l:List Int}(h:l≠[])(x:Int):mn (l++[x])=min (mn l) x:=by
 cases l with
 |nil=>exact absurd rfl h
 |cons a l=>simp [mn,List.foldl_append]
theorem aG4: ∀(l:List Int) (a:Int),a≤l.foldl max a
 | [],a=>Int.le_refl _
 |x::l,a=>Int.le_trans (Int.le_max_left a x) (aG4 l (max a x))
theorem aG5: ∀(l:List Int) (a:Int),l.foldl min a≤a
 | [],a=>Int.le_refl _
 |x::l,a=>Int.le_trans (aG5 l (min a x)) (Int.min_le_left a x)
def evs(l:List Affine)(p:List Int):List Int:=l.map (fun a=>eC a p)
def jL(l:Loop)(p:List Int):Int:=mx (evs l.lo p)
def o0(l:Loop)(p:List Int):Int:=mn (evs l.hi p)
def mR(k:Nat)(p:List Int):Prop:=p.length=k∧k≤4∧ptB (100*40^k) p
theorem A9{k:Nat}(h:k≤4):(0:Int)≤100*40^k∧(100:Int)*40^k≤1000000000:=by
 match k,h with
 |0,_=>decide
 |1,_=>decide
 |2,_=>decide
 |3,_=>decide
 |4,_=>decide
theorem wP{l:List Affine}{d:Int}(h:cC l d=true):1≤l.length∧l.length≤2∧ ∀a∈l,fJ a=true:=by
 simp only [cC,Bool.and_eq_true,decide_eq_true_eq,List.all_eq_true] at h
 refine⟨h.2.1,h.2.2,fun a ha=> ?_⟩
 have:=h.1 a ha
 simp only [bR,Bool.and_eq_true] at this
 exact this.1
theorem aEW{a:Affine}(ha:fJ a=true){k:Nat}{p:List Int}(hp:mR k p)(hk:k≤3): -(40*(100*40^k))≤eC a p∧eC a p≤40*(100*40^k):=by
 obtain⟨h1,h2,h3⟩:=wI ha
 obtain⟨p1,p2,p3⟩:=hp
 obtain⟨q1,q2⟩:=A9 (k:=k) (by omega)
 have hq:(100:Int)≤100*40^k:=by
  match k,hk with
  |0,_=>decide
  |1,_=>decide
  |2,_=>decide
  |3,_=>decide
 generalize (100*40^k:Int)=M at*
 have h4:=aFq (M:=M) q1 (cs:=a.coefs) (xs:=p) h3 (fun x hx=>p3 x hx)
 have h6:9*M*(p.length:Int)≤9*M*3:=Int.mul_le_mul_of_nonneg_left (by omega) (by omega)
 simp only [I4] at*
 unfold eC
 omega
theorem aEn{n:Nat}(hn:5000≤n){a:Affine}(ha:fJ a=true){k:Nat}{p:List Int}(hp:mR k p):fM n a p=some (eC a p):=
 aC0 hn ha (by have:=hp.1;have:=hp.2.1;omega) (A9 hp.2.1) hp.2.2
theorem aDj{n:Nat}(hn:5000≤n){a:Affine}(ha:fJ a=true){k:Nat}{p:List Int}(hp:mR k p):bX n a p=some (eC a p):=
 aDi hn ha (by have:=hp.1;have:=hp.2.1;omega) (A9 hp.2.1) hp.2.2
theorem kA{l:List Affine}{p:List Int}{i:Nat}{a:Affine}(h:l[i]? =some a):(evs l p)[i]? =some (eC a p):=by
 unfold evs;rw [List.getElem?_map,h];rfl
theorem zD(l:List Affine)(p:List Int):(evs l p).length=l.length:=List.length_map ..
theorem aCf{α:Type}{l:List α}{i:Nat}(h:1≤i)(hl:1≤l.length):l.take i≠[]:=by
 intro e
 have:(l.take i).length=0:=by rw [e];rfl
 rw [List.length_take] at this;omega
theorem aCq{l:List Int}{i:Nat}{x:Int}(h:l[i]? =some x)(hi:1≤i):mx (l.take (i+1))=max (mx (l.take i)) x:=by
 have:=(List.getElem?_eq_some_iff.1 h).1
 rw [List.take_add_one,h]
 exact aGs (aCf hi (by omega)) x
theorem aCs{l:List Int}{i:Nat}{x:Int}(h:l[i]? =some x)(hi:1≤i):mn (l.take (i+1))=min (mn (l.take i)) x:=by
 have:=(List.getElem?_eq_some_iff.1 h).1
 rw [List.take_add_one,h]
 exact aGu (aCf hi (by omega)) x
theorem aBe{l:List Int}{x:Int}(h:l[0]? =some x):mx (l.take 1)=x:=by
 cases l with
 |nil=>simp at h
 |cons a l=>simp at h;subst h;rfl
theorem aBf{l:List Int}{x:Int}(h:l[0]? =some x):mn (l.take 1)=x:=by
 cases l with
 |nil=>simp at h
 |cons a l=>simp at h;subst h;rfl
theorem zV{n:Nat}(hn:5000≤n){l:Loop}{d d':Int}(h1:cC l.lo d=true)(h2:cC l.hi d'=true){k:Nat}{p:List Int}(hp:mR k p):lI n l p=some (jL l p,o0 l p):=by
 obtain⟨a1,a2,a3⟩:=wP h1
 obtain⟨b1,b2,b3⟩:=wP h2
 have g1:=List.getElem?_eq_getElem (show 0<l.lo.length by omega)
 have g2:=List.getElem?_eq_getElem (show 0<l.hi.length by omega)
 refine Ev.eq ?_
 unfold lI
 refine aA (aL (i:=0) g1) (aA (aEn hn (a3 _ (List.mem_of_getElem? g1)) hp) (aA (aL (i:=0) g2) (aA (aEn hn (b3 _ (List.mem_of_getElem? g2)) hp) ?_)))
 refine Ev.loop (fun x:Int×Int=> ∃i:Nat,x.2=i∧1≤i∧i≤l.lo.length∧x.1=mx ((evs l.lo p).take i)) (fun x=>l.lo.length-x.2.toNat) ?_ n _ ⟨1,rfl,by omega,by omega,(aBe (kA g1)).symm⟩ (by dsimp only;omega)
 rintro again ⟨x,z⟩ ⟨i,hz,hi1,hi,hx⟩ hr
 dsimp only at hz hx⊢
 subst hz
 refine aF (fun hlt=> ?_) (fun hge=> ?_)
 ·have g:=List.getElem?_eq_getElem (show i<l.lo.length by omega)
  have e:=aCq (kA (p:=p) g) hi1
  refine Ev.jn (fun z=>z=mx ((evs l.lo p).take (i+1))) (fun j hj=>aA (aL g) (aA (aEn hn (a3 _ (List.mem_of_getElem? g)) hp) (aF (fun h=>hj _ ?_) (fun h=>hj _ ?_)))) (fun z hz=> ?_)
  ·rw [e,←hx];omega
  ·rw [e,←hx];omega
  ·rw [aI (by omega)]
   exact hr _ ⟨i+1,by dsimp only;omega,by omega,by omega,hz⟩ (by dsimp only;omega)
 ·have hie:i=l.lo.length:=by omega
  have hx':x=jL l p:=by rw [hx,hie,←zD l.lo p,List.take_length];rfl
  refine Ev.loop (fun x:Int×Int=> ∃i:Nat,x.2=i∧1≤i∧i≤l.hi.length∧x.1=mn ((evs l.hi p).take i)) (fun x=>l.hi.length-x.2.toNat) ?_ n _ ⟨1,rfl,by omega,by omega,(aBf (kA g2)).symm⟩ (by dsimp only;omega)
  rintro again2 ⟨y,z⟩ ⟨i,hz,hi1,hi,hy⟩ hr2
  dsimp only at hz hy⊢
  subst hz
  refine aF (fun hlt=> ?_) (fun hge=>Ev.some ?_)
  ·have g:=List.getElem?_eq_getElem (show i<l.hi.length by omega)
   have e:=aCs (kA (p:=p) g) hi1
   refine Ev.jn (fun z=>z=mn ((evs l.hi p).take (i+1))) (fun j hj=>aA (aL g) (aA (aEn hn (b3 _ (List.mem_of_getElem? g)) hp) (aF (fun h=>hj _ ?_) (fun h=>hj _ ?_)))) (fun z hz=> ?_)
   ·rw [e,←hy];omega
   ·rw [e,←hy];omega
   ·rw [aI (by omega)]
    exact hr2 _ ⟨i+1,by dsimp only;omega,by omega,by omega,hz⟩ (by dsimp only;omega)
  ·have hie:i=l.hi.length:=by omega
   rw [hx',hy,hie,←zD l.hi p,List.take_length];rfl
theorem aDg{n:Nat}(hn:5000≤n){l:Loop}{d d':Int}(h1:cC l.lo d=true)(h2:cC l.hi d'=true){k:Nat}{p:List Int}(hp:mR k p):kN n l p=some (jL l p,o0 l p):=by
 obtain⟨a1,a2,a3⟩:=wP h1
 obtain⟨b1,b2,b3⟩:=wP h2
 have g1:=List.getElem?_eq_getElem (show 0<l.lo.length by omega)
 have g2:=List.getElem?_eq_getElem (show 0<l.hi.length by omega)
 refine Ev.eq ?_
 unfold kN
 refine aA (aL (i:=0) g1) (aA (aDj hn (a3 _ (List.mem_of_getElem? g1)) hp) (aA (aL (i:=0) g2) (aA (aDj hn (b3 _ (List.mem_of_getElem? g2)) hp) ?_)))
 refine Ev.loop (fun x:Int×Int=> ∃i:Nat,x.2=i∧i≤l.lo.length∧x.1=mx ((evs l.lo p).take (max i 1))) (fun x=>l.lo.length-x.2.toNat) ?_ n _ ⟨0,rfl,by omega,(aBe (kA g1)).symm⟩ (by dsimp only;omega)
 rintro again ⟨x,z⟩ ⟨i,hz,hi,hx⟩ hr
 dsimp only at hz hx⊢
 subst hz
 refine aF (fun hlt=> ?_) (fun hge=> ?_)
 ·have g:=List.getElem?_eq_getElem (show i<l.lo.length by omega)
  refine aA (aL g) (aA (aDj hn (a3 _ (List.mem_of_getElem? g)) hp) ?_)
  rw [aI (by omega)]
  refine hr _ ⟨i+1,by dsimp only;omega,by omega,?_⟩ (by dsimp only;omega)
  dsimp only
  rw [show max (i+1) 1=i+1 by omega]
  cases i with
  |zero=>rw [hx,show max 0 1=1 by rfl,Nat.zero_add,aBe (kA g)];omega
  |succ i=>rw [aCq (kA (p:=p) g) (by omega),hx,show max (i+1) 1=i+1 by omega]
 ·have hie:i=l.lo.length:=by omega
  have hx':x=jL l p:=by rw [hx,hie,Nat.max_eq_left (by omega),←zD l.lo p,List.take_length];rfl
  refine Ev.loop (fun x:Int×Int=> ∃i:Nat,x.2=i∧i≤l.hi.length∧x.1=mn ((evs l.hi p).take (max i 1))) (fun x=>l.hi.length-x.2.toNat) ?_ n _ ⟨0,rfl,by omega,(aBf (kA g2)).symm⟩ (by dsimp only;omega)
  rintro again2 ⟨y,z⟩ ⟨i,hz,hi,hy⟩ hr2
  dsimp only at hz hy⊢
  subst hz
  refine aF (fun hlt=> ?_) (fun hge=>Ev.some ?_)
  ·have g:=List.getElem?_eq_getElem (show i<l.hi.length by omega)
   refine aA (aL g) (aA (aDj hn (b3 _ (List.mem_of_getElem? g)) hp) ?_)
   rw [aI (by omega)]
   refine hr2 _ ⟨i+1,by dsimp only;omega,by omega,?_⟩ (by dsimp only;omega)
   dsimp only
   rw [show max (i+1) 1=i+1 by omega]
   cases i with
   |zero=>rw [hy,show max 0 1=1 by rfl,Nat.zero_add,aBf (kA g)];omega
   |succ i=>rw [aCs (kA (p:=p) g) (by omega),hy,show max (i+1) 1=i+1 by omega]
  ·have hie:i=l.hi.length:=by omega
   rw [hx',hy,hie,Nat.max_eq_left (by omega),←zD l.hi p,List.take_length];rfl
theorem y7{l:Loop}{d d':Int}(h1:cC l.lo d=true)(h2:cC l.hi d'=true){k:Nat}{p:List Int}(hp:mR k p)(hk:k≤3){v:Int}(hv:jL l p≤v∧v<o0 l p):mR (k+1) (p++[v]):=by
 obtain⟨a1,a2,a3⟩:=wP h1
 obtain⟨b1,b2,b3⟩:=wP h2
 have e1: -(40*(100*40^k))≤jL l p:=by
  cases hl:l.lo with
  |nil=>rw [hl] at a1;simp at a1
  |cons a as=>
   have:=(aEW (a3 a (by rw [hl];simp)) hp hk).1
   unfold jL evs;rw [hl]
   exact Int.le_trans this (aG4 _ _)
 have e2:o0 l p≤40*(100*40^k):=by
  cases hl:l.hi with
  |nil=>rw [hl] at b1;simp at b1
  |cons a as=>
   have:=(aEW (b3 a (by rw [hl];simp)) hp hk).2
   unfold o0 evs;rw [hl]
   exact Int.le_trans (aG5 _ _) this
 obtain⟨p1,p2,p3⟩:=hp
 have e3:(100*40^(k+1):Int)=40*(100*40^k):=by rw [Int.pow_succ];omega
 have q:=(A9 (k:=k) (by omega)).1
 refine⟨by simp [p1],by omega,fun x hx=> ?_⟩
 rw [e3]
 rcases List.mem_append.1 hx with h|h
 ·have:=p3 x h
  simp only [I4] at this⊢
  omega
 ·simp at h;subst h
  simp only [I4]
  omega
def pts:List Loop→List Int→List (List Int)
 | [],p=>[p]
 |l::ls,p=>(jK (jL l p) (o0 l p)).flatMap (fun v=>pts ls (p++[v]))
def wk:List Loop→List Int→Int
 | [],_=>1
 |l::ls,p=>1+((jK (jL l p) (o0 l p)).map (fun v=>wk ls (p++[v]))).sum
theorem lU{α:Type}(f:α→Int): ∀(l:List α),(∀x∈l,1≤f x)→(l.length:Int)≤(l.map f).sum
 | [],_=>by simp
 |x::l,h=>by
  have h1:=lU f l (fun y hy=>h y (by simp [hy]))
  have h2:=h x (by simp)
  simp only [List.map_cons,List.sum_cons,List.length_cons];omega
theorem P7: ∀(ls:List Loop) (p:List Int),1≤wk ls p
 | [],p=>Int.le_refl _
 |l::ls,p=>by
  have:=lU (fun v=>wk ls (p++[v])) (jK (jL l p) (o0 l p)) (fun v _=>P7 ls _)
  simp only [wk];omega
def Fit(nest:List Loop):Prop:=nest.length≤4∧ ∀(i:Nat) l,nest[i]? =some l→cC l.lo (i:Int)=true∧cC l.hi (i:Int)=true
theorem S2{nest:List Loop}(h:iR nest=true):Fit nest:=by
 simp only [iR,Bool.and_eq_true,decide_eq_true_eq] at h
 refine⟨h.2,fun i l hl=> ?_⟩
 have:=D3 h.1 hl
 simpa [Bool.and_eq_true] using this
theorem sV{nest:List Loop}{k:Nat}{l:Loop}{ls:List Loop}(h:nest.drop k=l::ls):nest[k]? =some l∧nest.drop (k+1)=ls∧k<nest.length:=by
 have h1:(nest.drop k)[0]? =some l:=by rw [h];rfl
 rw [List.getElem?_drop,Nat.add_zero] at h1
 refine⟨h1,?_,(List.getElem?_eq_some_iff.1 h1).1⟩
 have:(nest.drop k).drop 1=ls:=by rw [h];rfl
 rwa [List.drop_drop] at this
theorem vQ{nest:List Loop}{k:Nat}(h:nest.drop k=[])(hk:k≤nest.length):k=nest.length:=by
 have:(nest.drop k).length=0:=by rw [h];rfl
 rw [List.length_drop] at this;omega
theorem eA(p:List Int)(h:p.length≤1000):app [] p=some p:=by rw [bP (by simp;omega)];rfl
theorem W6(l:List Int)(f:Int→Int)(v:Int):((l++[v]).map f).sum=(l.map f).sum+f v:=by simp
theorem aGl{lo v:Int}(h:lo≤v):((jK lo v).length:Int)=v-lo:=by unfold jK;simp;omega
theorem L1{nest:List Loop}(hf:Fit nest): ∀(ls:List Loop) (n k:Nat) (p:List Int) (most:Int),5000+ls.length≤n→nest.drop k=ls→k≤nest.length→mR k p→0≤most→most≤1200→
  Ev (s_l2Work n nest p most) (fun r=>(wk ls p≤most→r=wk ls p)∧(most<wk ls p→most<r)∧1≤r∧r≤most+1)
 | [],n,k,p,most,hn,hd,hk,hp,h0,h1=>by
  obtain⟨n,rfl⟩: ∃j,n=j+1:=⟨n-1,by omega⟩
  have hk':=vQ hd hk
  have hpl:=hp.1
  unfold s_l2Work
  rw [decide_eq_true (show(p.length:Int)=(nest.length:Int) by omega)]
  exact Ev.some ⟨fun _=>rfl,fun h=>by simp only [wk] at h;omega,by omega,by omega⟩
 |l::ls,n,k,p,most,hn,hd,hk,hp,h0,h1=>by
  obtain⟨n,rfl⟩: ∃j,n=j+1:=⟨n-1,by omega⟩
  obtain⟨d1,d2,d3⟩:=sV hd
  obtain⟨s1,s2⟩:=hf.2 k l d1
  have hpl:=hp.1
  have hk3:k≤3:=by have:=hf.1;omega
  simp only [List.length_cons] at hn
  unfold s_l2Work
  rw [decide_eq_false (show¬(p.length:Int)=(nest.length:Int) by omega)]
  refine bM (aA (x:=l) (by rw [hpl];exact aL d1) (aA (zV (by omega) s1 s2 hp) ?_))
  let f:Int→Int:=fun v=>wk ls (p++[v])
  have hfp: ∀v,1≤f v:=fun v=>P7 _ _
  have hW:wk (l::ls) p=1+((jK (jL l p) (o0 l p)).map f).sum:=rfl
  refine Ev.loop (fun x:Int×Int=>jL l p≤x.2∧(x.2≤o0 l p∨x.2=jL l p)∧(1+((jK (jL l p) x.2).map f).sum≤most→x.1=1+((jK (jL l p) x.2).map f).sum)∧(most<1+((jK (jL l p) x.2).map f).sum→most<x.1)∧1≤x.1∧x.1≤most+1)
   (fun x=>(most+1-x.1).toNat) ?_ n _ ⟨Int.le_refl _,.inr rfl,fun _=>by rw [gB (Int.le_refl _)];rfl,fun h=>by rw [gB (Int.le_refl _)] at h;simp at h;dsimp only;omega,by dsimp only;omega,by dsimp only;omega⟩ (by dsimp only;omega)
  rintro again ⟨x,v⟩ ⟨i1,i2,i3,i4,i5,i6⟩ hr
  dsimp only at i1 i2 i3 i4 i5 i6⊢
  refine Ev.jn (fun z=>z=decide (v<o0 l p∧x≤most)) (fun j hj=>aF (fun h=>hj _ ?_) (fun h=>hj _ ?_)) (fun z hz=> ?_)
  ·by_cases hx:x≤most
   ·rw [decide_eq_true hx,decide_eq_true ⟨h,hx⟩]
   ·rw [decide_eq_false hx,decide_eq_false (fun h=>hx h.2)]
  ·rw [decide_eq_false (fun h'=>h h'.1)]
  subst hz
  refine aF (fun⟨hv,hx⟩=> ?_) (fun hno=>Ev.some ?_)
  ·have hsum:x=1+((jK (jL l p) v).map f).sum:=i3 (by apply Int.not_lt.1;intro h;have:=i4 h;omega)
   have hp':=y7 s1 s2 hp hk3 ⟨i1,hv⟩
   have e1:wr (most-x)=most-x:=by rw [aI (by omega)]
   rw [e1]
   refine aA (eA p (by omega)) (aA (bP (by simp;omega)) (aG (L1 hf ls n (k+1) (p++[v]) (most-x) (by omega) d2 (by omega) hp' (by omega) (by omega)) (fun r ⟨r1,r2,r3,r4⟩=> ?_)))
   have hvb:v<o0 l p:=hv
   have hvr: -1000000000≤v∧v≤1000000000:=by
    have h9:=hp'.2.2 v (by simp)
    have h8:=A9 hp'.2.1
    simp only [I4] at h9;omega
   rw [aI (n:=v+1) (by omega),aI (n:=x+r) (by omega)]
   have hs:1+((jK (jL l p) (v+1)).map f).sum=x+f v:=by rw [l9 i1,W6,hsum];omega
   refine hr _ ⟨by dsimp only;omega,.inl (by dsimp only;omega),?_,?_,by dsimp only;omega,by dsimp only;omega⟩ (by dsimp only;omega)
   ·dsimp only;rw [hs];intro h
    have:r=f v:=r1 (show f v≤most-x by omega)
    omega
   ·dsimp only;rw [hs];intro h
    have:most-x<r:=r2 (show most-x<f v by omega)
    omega
  ·have hmono:1+((jK (jL l p) v).map f).sum≤wk (l::ls) p∧(o0 l p≤v→1+((jK (jL l p) v).map f).sum=wk (l::ls) p):=by
    rw [hW]
    by_cases h:v<o0 l p
    ·refine⟨?_,fun h'=>by omega⟩
     rw [sL i1 h,List.map_append,List.sum_append,List.map_cons,List.sum_cons]
     have:=lU f (jK (v+1) (o0 l p)) (fun y _=>hfp y)
     have:=hfp v
     omega
    ·have:jK (jL l p) v=jK (jL l p) (o0 l p):=by
      rcases i2 with h2|h2
      ·rw [show v=o0 l p by omega]
      ·subst h2;rw [gB (Int.le_refl _),gB (by omega)]
     rw [this];exact⟨Int.le_refl _,fun _=>rfl⟩
   refine⟨fun h=> ?_,fun h=> ?_,i5,i6⟩
   ·have hx:=i3 (by omega)
    rw [hx]
    apply hmono.2
    apply Int.not_lt.1
    intro hv;exact hno ⟨hv,by omega⟩
   ·apply Int.not_le.1
    intro hx
    have hv:o0 l p≤v:=by apply Int.not_lt.1;intro hv;exact hno ⟨hv,hx⟩
    have:=i4 (by rw [hmono.2 hv];exact h)
    omega
theorem qM{nest:List Loop}(hf:Fit nest): ∀(ls:List Loop) (n k:Nat) (p:List Int) (out:List (List Int)),5000+ls.length≤n→nest.drop k=ls→k≤nest.length→mR k p→wk ls p≤1200→out.length≤120→
  Ev (s_l2Points n out nest p) (fun r=>(out.length+(pts ls p).length≤120→r=out++pts ls p)∧(120<out.length+(pts ls p).length→120<r.length))
 | [],n,k,p,out,hn,hd,hk,hp,h0,h1=>by
  obtain⟨n,rfl⟩: ∃j,n=j+1:=⟨n-1,by omega⟩
  have hk':=vQ hd hk
  have hpl:=hp.1
  have hf1:=hf.1
  unfold s_l2Points
  rw [decide_eq_true (show(p.length:Int)=(nest.length:Int) by omega)]
  refine bW (aA (eA p (by omega)) (aA (bP (by simp;omega)) (Ev.some ⟨fun _=>rfl,fun h=>by simp [pts] at h ⊢; omega⟩)))
 |l::ls,n,k,p,out,hn,hd,hk,hp,h0,h1=>by
  obtain⟨n,rfl⟩: ∃j,n=j+1:=⟨n-1,by omega⟩
  obtain⟨d1,d2,d3⟩:=sV hd
  obtain⟨s1,s2⟩:=hf.2 k l d1
  have hpl:=hp.1
  have hf1:=hf.1
  have hk3:k≤3:=by omega
  simp only [List.length_cons] at hn
  unfold s_l2Points
  rw [decide_eq_false (show¬(p.length:Int)=(nest.length:Int) by omega)]
  refine bM (aA (x:=l) (by rw [hpl];exact aL d1) (aA (zV (by omega) s1 s2 hp) ?_))
  let f:Int→Int:=fun v=>wk ls (p++[v])
  have hfp: ∀v,1≤f v:=fun v=>P7 _ _
  have hW:wk (l::ls) p=1+((jK (jL l p) (o0 l p)).map f).sum:=rfl
  let g:Int→List (List Int):=fun v=>pts ls (p++[v])
  have hP:pts (l::ls) p=(jK (jL l p) (o0 l p)).flatMap g:=rfl
  have hlen:jL l p≤o0 l p→o0 l p-jL l p≤1199:=fun hle=>by
   have:=lU f (jK (jL l p) (o0 l p)) (fun y _=>hfp y)
   have:=aGl hle
   omega
  refine Ev.loop (fun x:List (List Int)×Int=>jL l p≤x.2∧(x.2≤o0 l p∨x.2=jL l p)∧(out.length+((jK (jL l p) x.2).flatMap g).length≤120→x.1=out++(jK (jL l p) x.2).flatMap g)∧(120<out.length+((jK (jL l p) x.2).flatMap g).length→120<x.1.length))
   (fun x=>(o0 l p-x.2).toNat) ?_ n _ ⟨Int.le_refl _,.inr rfl,fun _=>by rw [gB (Int.le_refl _)];simp,fun h=>by rw [gB (Int.le_refl _)] at h;simp at h;omega⟩ (by dsimp only;omega)
  rintro again ⟨x,v⟩ ⟨i1,i2,i3,i4⟩ hr
  dsimp only at i1 i2 i3 i4⊢
  refine Ev.jn (fun z=>z=decide (v<o0 l p∧x.length≤120)) (fun j hj=>aF (fun h=>hj _ ?_) (fun h=>hj _ ?_)) (fun z hz=> ?_)
  ·by_cases hx:x.length≤120
   ·rw [decide_eq_true (show(x.length:Int)≤120 by omega),decide_eq_true ⟨h,hx⟩]
   ·rw [decide_eq_false (show¬(x.length:Int)≤120 by omega),decide_eq_false (fun h=>hx h.2)]
  ·rw [decide_eq_false (fun h'=>h h'.1)]
  subst hz
  refine aF (fun⟨hv,hx⟩=> ?_) (fun hno=>Ev.some ?_)
  ·have hxe:x=out++(jK (jL l p) v).flatMap g:=i3 (by apply Nat.not_lt.1;intro h;have:=i4 h;omega)
   have hp':=y7 s1 s2 hp hk3 ⟨i1,hv⟩
   have hwc:f v≤1200:=by
    rw [hW,sL i1 hv,List.map_append,List.sum_append,List.map_cons,List.sum_cons] at h0
    have:=lU f (jK (v+1) (o0 l p)) (fun y _=>hfp y)
    have:=lU f (jK (jL l p) v) (fun y _=>hfp y)
    omega
   refine aA (eA p (by omega)) (aA (bP (by simp;omega)) (aG (qM hf ls n (k+1) (p++[v]) x (by omega) d2 (by omega) hp' hwc hx) (fun r ⟨r1,r2⟩=> ?_)))
   have hvr: -1000000000≤v∧v≤1000000000:=by
    have h9:=hp'.2.2 v (by simp)
    have h8:=A9 hp'.2.1
    simp only [I4] at h9;omega
   rw [aI (n:=v+1) (by omega)]
   have hs:(jK (jL l p) (v+1)).flatMap g=(jK (jL l p) v).flatMap g++g v:=by rw [l9 i1,List.flatMap_append];simp
   refine hr _ ⟨by dsimp only;omega,.inl (by dsimp only;omega),?_,?_⟩ (by dsimp only;omega)
   ·dsimp only;rw [hs];intro h
    simp only [List.length_append] at h
    have hl:x.length=out.length+((jK (jL l p) v).flatMap g).length:=by rw [hxe,List.length_append]
    rw [r1 (show x.length+(g v).length≤120 by omega),hxe,List.append_assoc]
   ·dsimp only;rw [hs];intro h
    simp only [List.length_append] at h
    have hl:x.length=out.length+((jK (jL l p) v).flatMap g).length:=by rw [hxe,List.length_append]
    exact r2 (show 120<x.length+(g v).length by omega)
  ·have hmono:((jK (jL l p) v).flatMap g).length≤(pts (l::ls) p).length∧(o0 l p≤v→(jK (jL l p) v).flatMap g=pts (l::ls) p):=by
    rw [hP]
    by_cases h:v<o0 l p
    ·refine⟨?_,fun h'=>by omega⟩
     rw [sL i1 h,List.flatMap_append,List.length_append]
     omega
    ·have:jK (jL l p) v=jK (jL l p) (o0 l p):=by
      rcases i2 with h2|h2
      ·rw [show v=o0 l p by omega]
      ·subst h2;rw [gB (Int.le_refl _),gB (by omega)]
     rw [this];exact⟨Nat.le_refl _,fun _=>rfl⟩
   refine⟨fun h=> ?_,fun h=> ?_⟩
   ·have hx:=i3 (by omega)
    rw [hx,hmono.2]
    apply Int.not_lt.1
    intro hv;exact hno ⟨hv,by rw [hx,List.length_append];omega⟩
   ·apply Nat.not_le.1
    intro hx
    have hv:o0 l p≤v:=by apply Int.not_lt.1;intro hv;exact hno ⟨hv,hx⟩
    have:=i4 (by rw [hmono.2 hv];exact h)
    omega
theorem N2{nest:List Loop}(hf:Fit nest): ∀(ls:List Loop) (n k:Nat) (p:List Int) (st:Int) (out:List (List Int)),5000+ls.length≤n→nest.drop k=ls→k≤nest.length→mR k p→0≤st→st≤1199→out.length≤120→
  Ev (i_walking_walk n ⟨nest,st,out⟩ p) (fun r=>(st+wk ls p≤1200∧out.length+(pts ls p).length≤120→r=(true,⟨nest,st+wk ls p-1,out++pts ls p⟩))∧(¬(st+wk ls p≤1200∧out.length+(pts ls p).length≤120)→r.1=false))
 | [],n,k,p,st,out,hn,hd,hk,hp,h0,h1,h2=>by
  obtain⟨n,rfl⟩: ∃j,n=j+1:=⟨n-1,by omega⟩
  have hk':=vQ hd hk
  have hpl:=hp.1
  have hf1:=hf.1
  unfold i_walking_walk
  dsimp only
  rw [decide_eq_true (show(p.length:Int)=(nest.length:Int) by omega)]
  have hc:m_ownClone p=some p:=by unfold m_ownClone;rw [if_pos (by omega)]
  refine bW (aA hc (aA (bP (by simp;omega)) (Ev.some ⟨fun h=> ?_,fun h=> ?_⟩)))
  ·simp only [wk,pts,List.length_singleton] at h⊢
   rw [decide_eq_true (by simp;omega),show st+1-1=st by omega]
  ·simp only [wk,pts,List.length_singleton] at h⊢
   exact decide_eq_false (by simp;omega)
 |l::ls,n,k,p,st,out,hn,hd,hk,hp,h0,h1,h2=>by
  obtain⟨n,rfl⟩: ∃j,n=j+1:=⟨n-1,by omega⟩
  obtain⟨d1,d2,d3⟩:=sV hd
  obtain⟨s1,s2⟩:=hf.2 k l d1
  have hpl:=hp.1
  have hf1:=hf.1
  have hk3:k≤3:=by omega
  simp only [List.length_cons] at hn
  unfold i_walking_walk
  dsimp only
  rw [decide_eq_false (show¬(p.length:Int)=(nest.length:Int) by omega)]
  refine bM (aA (x:=l) (by rw [hpl];exact aL d1) (aA (aDg (by omega) s1 s2 hp) ?_))
  let f:Int→Int:=fun v=>wk ls (p++[v])
  have hfp: ∀v,1≤f v:=fun v=>P7 _ _
  have hW:wk (l::ls) p=1+((jK (jL l p) (o0 l p)).map f).sum:=rfl
  let g:Int→List (List Int):=fun v=>pts ls (p++[v])
  have hP:pts (l::ls) p=(jK (jL l p) (o0 l p)).flatMap g:=rfl
  refine Ev.loop (fun x:List Loop×Int×List (List Int)×Int=>x.1=nest∧jL l p≤x.2.2.2∧(x.2.2.2≤o0 l p∨x.2.2.2=jL l p)∧x.2.1=st+((jK (jL l p) x.2.2.2).map f).sum∧x.2.2.1=out++(jK (jL l p) x.2.2.2).flatMap g∧0≤x.2.1∧x.2.1≤1199∧x.2.2.1.length≤120)
   (fun x=>(1200-x.2.1).toNat) ?_ n _ ⟨rfl,Int.le_refl _,.inr rfl,by dsimp only;rw [gB (Int.le_refl _)];simp,by dsimp only;rw [gB (Int.le_refl _)];simp,h0,h1,h2⟩ (by dsimp only;omega)
  rintro again ⟨nst,x,o,v⟩ ⟨i0,i1,i2,i3,i4,i5,i6,i7⟩ hr
  dsimp only at i0 i1 i2 i3 i4 i5 i6 i7⊢
  subst i0
  have hol:o.length=out.length+((jK (jL l p) v).flatMap g).length:=by rw [i4,List.length_append]
  refine aF (fun hv=> ?_) (fun hv=>Ev.some ?_)
  ·have hp':=y7 s1 s2 hp hk3 ⟨i1,hv⟩
   have hrest:wk (l::ls) p≥1+((jK (jL l p) v).map f).sum+f v∧(pts (l::ls) p).length≥((jK (jL l p) v).flatMap g).length+(g v).length:=by
    rw [hW,hP,sL i1 hv,List.map_append,List.sum_append,List.map_cons,List.sum_cons,List.flatMap_append,List.length_append,List.flatMap_cons,List.length_append]
    have:=lU f (jK (v+1) (o0 l p)) (fun y _=>hfp y)
    constructor
    ·omega
    ·omega
   have hvr: -1000000000≤v∧v≤1000000000:=by
    have h9:=hp'.2.2 v (by simp)
    have h8:=A9 hp'.2.1
    simp only [I4] at h9;omega
   have e1:wr (x+1)=x+1:=by rw [aI (by omega)]
   have e2:wr (x+1+1)=x+1+1:=by rw [aI (by omega)]
   have e3:wr (v+1)=v+1:=by rw [aI (by omega)]
   rw [e1,e2,e3]
   refine Ev.jn (fun z:List Loop×Int×List (List Int)×Bool=>(z.2.2.2=false→z.1=nst∧x+f v≤1199∧o.length+(g v).length≤120∧z.2.1=x+f v∧z.2.2.1=o++g v)∧(z.2.2.2=true→ ¬(st+wk (l::ls) p≤1200∧out.length+(pts (l::ls) p).length≤120)))
    (fun j hj=>aF (fun h=>hj _ ⟨fun h'=>(by cases h'),fun _=> ?_⟩) (fun h=> ?_)) (fun z hz=> ?_)
   ·have:=hfp v
    omega
   ·have hc:m_ownClone p=some p:=by unfold m_ownClone;rw [if_pos (by omega)]
    refine aA hc (aA (bP (by simp;omega)) (aG (N2 hf ls n (k+1) (p++[v]) (x+1) o (by omega) d2 (by omega) hp' (by omega) (by omega) i7) (fun r ⟨r1,r2⟩=> ?_)))
    by_cases hc:x+1+f v≤1200∧o.length+(g v).length≤120
    ·rw [r1 hc]
     exact hj _ ⟨fun _=>⟨rfl,by omega,hc.2,show x+1+f v-1=x+f v by omega,rfl⟩,fun h=>(by cases h)⟩
    ·have hr1:=r2 hc
     obtain⟨rb,⟨rn,rs,ro⟩⟩:=r
     dsimp only at hr1⊢
     subst hr1
     exact hj _ ⟨fun h=>(by cases h),fun _=>by omega⟩
   ·obtain⟨za,zb,zc,zd⟩:=z
    obtain⟨z2,z3⟩:=hz
    dsimp only at z2 z3⊢
    cases zd with
    |true=>exact Ev.some ⟨fun h=>absurd h (z3 rfl),fun _=>rfl⟩
    |false=>
     obtain⟨rfl,y1,y2,y3,y4⟩:=z2 rfl
     refine hr _ ⟨rfl,by dsimp only;omega,.inl (by dsimp only;omega),?_,?_,by dsimp only;have:=hfp v;omega,by dsimp only;omega,?_⟩ (by dsimp only;have:=hfp v;omega)
     ·dsimp only;rw [l9 i1,W6,y3,i3];omega
     ·dsimp only;rw [y4,i4,l9 i1,List.flatMap_append];simp
     ·dsimp only;rw [y4,List.length_append];exact y2
  ·have:jK (jL l p) v=jK (jL l p) (o0 l p):=by
    rcases i2 with h2|h2
    ·rw [show v=o0 l p by omega]
    ·subst h2;rw [gB (Int.le_refl _),gB (by omega)]
   rw [this] at i3 i4 hol
   rw [←hP] at i4 hol
   refine⟨fun h=> ?_,fun h=> ?_⟩
   ·rw [i4,i3,hW,show st+(1+((jK (jL l p) (o0 l p)).map f).sum)-1=st+((jK (jL l p) (o0 l p)).map f).sum by omega]
   ·exact absurd ⟨by omega,by omega⟩ h
def NP(nest:List Loop):Option (List (List Int)):=if iR nest=true∧wk nest []≤1200∧(pts nest []).length≤120 then some (pts nest []) else none
def aBA:Option (List (List Int))→List (List Int)×Bool
 |none=>([],false)
 |some l=>(l,true)
theorem pt0:mR 0 []:=⟨rfl,by omega,fun x h=>by cases h⟩
theorem yX{n:Nat}(hn:6000≤n){nest:List Loop}(h:SmN nest):iV n nest=some (aBA (NP nest)):=by
 refine Ev.eq ?_
 unfold iV
 refine aA (D9 (by omega) h) ?_
 unfold NP
 cases hv:iR nest with
 |false=>exact Ev.some (by simp [aBA])
 |true=>
  have hf:=S2 hv
  refine aG (N2 hf nest n 0 [] 0 [] (by have:=hf.1;omega) rfl (by omega) pt0 (by omega) (by omega) (by simp)) (fun r ⟨r1,r2⟩=> ?_)
  by_cases hc:(0:Int)+wk nest []≤1200∧([]:List (List Int)).length+(pts nest []).length≤120
  ·rw [r1 hc,if_pos ⟨rfl,by omega,by simpa using hc.2⟩]
   exact Ev.some (by simp [aBA])
  ·rw [r2 hc,if_neg (fun h=>hc ⟨by omega,by simpa using h.2.2⟩)]
   exact Ev.some rfl
theorem yQ{n:Nat}(hn:6000≤n){nest:List Loop}(h:SmN nest):iN n nest=some (aBA (NP nest)):=by
 refine Ev.eq ?_
 unfold iN
 refine Ev.jn (fun z=>z= !(iR nest&&decide (wk nest []≤1200))) (fun j hj=>aA (zZ (by omega) h) ?_) (fun z hz=> ?_)
 ·cases hv:iR nest with
  |false=>exact hj _ (by rw [hv];rfl)
  |true=>
   have hf:=S2 hv
   refine aG (L1 hf nest n 0 [] 1200 (by have:=hf.1;omega) rfl (by omega) pt0 (by omega) (by omega)) (fun r ⟨r1,r2,r3,r4⟩=>hj _ ?_)
   rw [hv,Bool.true_and]
   by_cases hw:wk nest []≤1200
   ·rw [decide_eq_true hw,decide_eq_false (by rw [r1 hw];omega)];rfl
   ·rw [decide_eq_false hw,decide_eq_true (r2 (by omega))];rfl
 ·subst hz
  unfold NP
  cases hv:iR nest with
  |false=>exact Ev.some (by simp [aBA])
  |true=>
   have hf:=S2 hv
   by_cases hw:wk nest []≤1200
   ·rw [decide_eq_true hw]
    refine aG (qM hf nest n 0 [] [] (by have:=hf.1;omega) rfl (by omega) pt0 hw (by simp)) (fun r ⟨r1,r2⟩=> ?_)
    by_cases hl:(pts nest []).length≤120
    ·rw [r1 (by simpa using hl),if_pos ⟨rfl,hw,hl⟩]
     refine aF (fun h=>absurd h (by simp;omega)) (fun _=>Ev.some (by simp [aBA]))
    ·have:=r2 (by simp;omega)
     rw [if_neg (fun h=>hl h.2.2)]
     exact aF (fun _=>Ev.some rfl) (fun h=>absurd h (by omega))
   ·rw [decide_eq_false hw,if_neg (fun h=>hw h.2.1)]
    exact Ev.some rfl
def mD(s:List UInt8):Bool:=match s with
 | [b]=>decide (65≤b.toNat∧b.toNat≤68)
 |_=>false
theorem tY{s:List UInt8}(h:s.length≠1):mD s=false:=by
 match s,h with
 | [],_=>rfl
 | [b],h=>exact absurd rfl h
 |_::_::_,_=>rfl
theorem aHM{s:List UInt8}(h:s.length=1): ∃b,s=[b]:=by
 match s,h with
 | [b],_=>exact⟨b,rfl⟩
theorem aD1(b:UInt8)(k:Nat)(hk:k<256):(b=UInt8.ofNat k)↔b.toNat=k:=by
 constructor
 ·intro h;rw [h];simp;omega
 ·intro h;rw [←h];simp
theorem J6(b:UInt8):Lib.contains [65,66,67,68] [b]=decide (65≤b.toNat∧b.toNat≤68):=by
 have e1:(b=65)↔b.toNat=65:=aD1 b 65 (by omega)
 have e2:(b=66)↔b.toNat=66:=aD1 b 66 (by omega)
 have e3:(b=67)↔b.toNat=67:=aD1 b 67 (by omega)
 have e4:(b=68)↔b.toNat=68:=aD1 b 68 (by omega)
 by_cases h1:b=65
 ·subst h1;decide
 by_cases h2:b=66
 ·subst h2;decide
 by_cases h3:b=67
 ·subst h3;decide
 by_cases h4:b=68
 ·subst h4;decide
 rw [e1] at h1;rw [e2] at h2;rw [e3] at h3;rw [e4] at h4
 rw [decide_eq_false (by omega)]
 rw [←e1] at h1;rw [←e2] at h2;rw [←e3] at h3;rw [←e4] at h4
 simp [Lib.contains,Lib.index,h1,h2,h3,h4]
theorem vF(n:Nat)(s:List UInt8):lO n s=some (mD s):=by
 unfold lO
 by_cases h:s.length=1
 ·obtain⟨b,rfl⟩:=aHM h
  simp only [jn,m_contains]
  rw [if_pos (by simp),J6]
  rfl
 ·rw [decide_eq_false (show¬(s.length:Int)=1 by omega),tY h];rfl
theorem C5(b:UInt8):Op.bytesLess [b] [65]=decide (b.toNat<65):=by
 simp [Op.bytesLess,UInt8.lt_iff_toNat_lt]
theorem C4(b:UInt8):(Op.bytesLess [b] [68]||[b]==[68])=decide (b.toNat≤68):=by
 have e:(b=68)↔b.toNat=68:=aD1 b 68 (by omega)
 by_cases h:b=68
 ·subst h;decide
 ·have h':b.toNat≠68:=fun e'=>h (e.2 e')
  have:([b]==[(68:UInt8)])=false:=by simp [h]
  rw [this,Bool.or_false]
  simp only [Op.bytesLess,Bool.and_false,Bool.or_false,UInt8.lt_iff_toNat_lt]
  apply decide_eq_decide.2
  show b.toNat<68↔_
  omega
def gK(a:Access)(d:Int):Bool:=a.subs.all (fun x=>bR x d)&&(mD a.array&&decide (1≤a.subs.length∧a.subs.length≤2))
theorem aDl{n:Nat}(hn:5000≤n){a:Affine}(ha:SmA a)(d:Int):gD n a d=some (!bR a d):=D7 hn ha d
theorem tH{n:Nat}(hn:5000≤n){a:Access}(ha:sC a.subs)(d:Int):jO n a d=some (gK a d):=by
 obtain⟨h0,h1⟩:=ha
 unfold jO
 rw [vF,pD]
 have hc:=pY (n:=n) (f:=fun q0=>gD n q0 d) (p:=fun a=> !bR a d) (l:=a.subs) (fun x hx=>aDl hn (h1 x hx) d) (by omega) (by omega)
 simp only [jn,Option.bind]
 rw [hc]
 unfold gK
 have e:(a.subs.any fun a=> !bR a d)= !(a.subs.all fun a=>bR a d):=by
  rw [List.all_eq_not_any_not];simp
 rw [e]
 cases mD a.array<;>cases decide (1≤a.subs.length∧a.subs.length≤2)<;>simp
theorem tE{n:Nat}(hn:5000≤n){a:Access}(ha:sC a.subs)(d:Int):jH n a d=some (gK a d):=by
 obtain⟨h0,h1⟩:=ha
 refine Ev.eq ?_
 unfold jH
 refine lH (l:=a.subs) (p:=fun _ a=>bR a d) (by omega) (by omega) (fun again i x hx hgo hno=> ?_) (fun again hall=> ?_) (fun⟨i,x,hx,hp⟩=> ?_)
 ·have hi:=(List.getElem?_eq_some_iff.1 hx).1
  have hm:=h1 x (List.mem_of_getElem? hx)
  rw [decide_eq_true (show(i:Int)<(a.subs.length:Int) by omega)]
  refine bW (Ev.jn (fun z=>z= !bR x d) (fun j hj=>aA (aL hx) (aA (jJ hn x hm) ?_)) (fun z hz=> ?_))
  ·cases ha:fJ x with
   |false=>exact hj _ (by unfold bR;rw [ha];rfl)
   |true=>exact aA (tS hn hm) (hj _ (by unfold bR;rw [ha,ltd];simp))
  ·subst hz
   cases hb:bR x d with
   |true=>show Ev (again _) _;rw [aI (by omega)];exact hgo hb
   |false=>exact Ev.some (hno hb)
 ·rw [decide_eq_false (show¬(a.subs.length:Int)<(a.subs.length:Int) by omega)]
  have e:a.subs.all (fun a=>bR a d)=true:=List.all_eq_true.2 (fun c hc=>by obtain⟨i,hi⟩:=List.getElem?_of_mem hc;exact hall i c hi)
  unfold gK
  rw [e,Bool.true_and]
  refine bM (Ev.jn (fun z=>z=(mD a.array&&decide (1≤a.subs.length∧a.subs.length≤2))) (fun j hj=> ?_) (fun z hz=>Ev.some hz))
  by_cases h:a.array.length=1
  ·rw [decide_eq_true (show(a.array.length:Int)=1 by omega)]
   obtain⟨b,hb⟩:=aHM h
   rw [hb] at hj⊢
   rw [C5,C4]
   show Ev (bif _ then _ else _) _
   simp only [mD] at hj⊢
   by_cases g1:b.toNat<65
   ·rw [decide_eq_true g1]
    exact hj _ (by rw [decide_eq_false (show¬(65≤b.toNat∧b.toNat≤68) by omega)];rfl)
   ·rw [decide_eq_false g1]
    by_cases g2:b.toNat≤68
    ·rw [decide_eq_true g2]
     rw [decide_eq_true (show 65≤b.toNat∧b.toNat≤68 by omega)] at hj⊢
     refine aF (fun h=>hj _ ?_) (fun h=>hj _ ?_)
     ·by_cases h2:a.subs.length≤2
      ·rw [decide_eq_true (show(a.subs.length:Int)≤2 by omega),decide_eq_true (by omega)];rfl
      ·rw [decide_eq_false (show¬(a.subs.length:Int)≤2 by omega),decide_eq_false (by omega)];rfl
     ·rw [decide_eq_false (by omega)];rfl
    ·rw [decide_eq_false g2]
     exact hj _ (by rw [decide_eq_false (show¬(65≤b.toNat∧b.toNat≤68) by omega)];rfl)
  ·rw [decide_eq_false (show¬(a.array.length:Int)=1 by omega)]
   exact hj _ (by rw [tY h];rfl)
 ·unfold gK
  rw [List.all_eq_false.2 ⟨x,List.mem_of_getElem? hx,by rw [hp];simp⟩];rfl
def kF(a:Affine):Bool:=decide (a.coefs.length=0)&&decide (a.const=0)
def pT(a:Access):Bool:=decide (a.array=[])&&decide (a.subs.length=0)
theorem aGx(k:Nat):decide ((k:Int)=0)=decide (k=0):=decide_eq_decide.2 (by omega)
theorem J1(n:Nat)(a:Affine):jM n a=some (kF a):=by
 unfold jM kF;rw [aGx];cases decide (a.coefs.length=0)<;>rfl
theorem X0(n:Nat)(a:Affine):l3 n a=some (kF a):=by
 unfold l3 kF;rw [aGx];cases decide (a.coefs.length=0)<;>rfl
theorem J2(n:Nat)(a:Access):fQ n a=some (pT a):=by
 unfold fQ pT;rw [aGx];cases decide (a.array=[])<;>rfl
theorem Q3(n:Nat)(a:Access):jG n a=some (pT a):=by
 unfold jG pT;rw [aGx];cases decide (a.array=[])<;>rfl
def gP(e:Expr)(d:Int):Bool:=
 if e.kind=2 then decide (e.num=0)&&(pT e.read&&bR e.index d)
 else if e.kind=3 then decide (e.num=0)&&(kF e.index&&gK e.read d)
 else if e.kind=1 then decide (0≤e.num∧e.num≤99)&&(kF e.index&&pT e.read)
 else decide (e.num=0)&&(kF e.index&&pT e.read)
def eN(k:Int):Int:=if k=1∨k=2∨k=3 then 0 else if k=4∨k=5∨k=6 then 2 else-1
theorem X2(n:Nat)(k:Int):qW n k=some (eN k):=by
 unfold qW eN
 by_cases h1:k=1
 ·subst h1;rfl
 by_cases h2:k=2
 ·subst h2;rfl
 by_cases h3:k=3
 ·subst h3;rfl
 by_cases h4:k=4
 ·subst h4;rfl
 by_cases h5:k=5
 ·subst h5;rfl
 by_cases h6:k=6
 ·subst h6;rfl
 simp [jn,h1,h2,h3,h4,h5,h6]
theorem aAZ{n:Nat}(hn:5000≤n){e:Expr}(h1:SmA e.index)(h2:sC e.read.subs)(d:Int):uU n e d=some (gP e d):=by
 unfold uU gP
 rw [Q3,X0,jJ hn _ h1,tS hn h1,tE hn h2]
 by_cases k2:e.kind=2
 ·rw [if_pos k2,decide_eq_true k2]
  simp only [jn,Option.bind,cond_true,bR]
  cases decide (e.num=0)<;>cases pT e.read<;>cases fJ e.index<;>simp
 ·rw [if_neg k2,decide_eq_false k2]
  by_cases k3:e.kind=3
  ·rw [if_pos k3,decide_eq_true k3]
   simp only [jn,Option.bind,cond_true,cond_false]
   cases decide (e.num=0)<;>cases kF e.index<;>simp
  ·rw [if_neg k3,decide_eq_false k3]
   by_cases k1:e.kind=1
   ·rw [if_pos k1,decide_eq_true k1]
    simp only [jn,Option.bind,cond_true,cond_false]
    by_cases g1:0≤e.num<;>by_cases g2:e.num≤99<;>cases kF e.index<;>simp [g1,g2]
   ·rw [if_neg k1,decide_eq_false k1]
    simp only [jn,Option.bind,cond_false]
    cases decide (e.num=0)<;>cases kF e.index<;>simp
end Go.Lift
