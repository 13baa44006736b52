/- Plain facts on sums of products, on ranges, on the points of a nest. -/
import Derived.Test.YtdcjmccimcppbaaGreatBLawDraw
set_option maxRecDepth 100000
set_option linter.unusedVariables false
namespace Go.Lift
open Go
def dot:List Int→List Int→Int
 |c::cs,x::xs=>c*x+dot cs xs
 |_,_=>0
def B4(m:Int)(x:Int):Prop:= -m≤x∧x≤m
theorem aFD{a b c x:Int}(ha:0≤a)(hb:0≤b)(h1:B4 a c)(h2:B4 b x):B4 (a*b) (c*x):=by
 obtain⟨p1,p2⟩:=h1
 obtain⟨q1,q2⟩:=h2
 constructor
 ·have h:=Int.mul_nonneg (show 0≤a+c by omega) (show 0≤b+x by omega)
  have k:=Int.mul_nonneg (show 0≤a-c by omega) (show 0≤b-x by omega)
  have e1:(a+c)*(b+x)=a*b+a*x+c*b+c*x:=by rw [Int.add_mul,Int.mul_add,Int.mul_add];omega
  have e2:(a-c)*(b-x)=a*b-a*x-c*b+c*x:=by rw [Int.sub_mul,Int.mul_sub,Int.mul_sub];omega
  rw [e1] at h;rw [e2] at k;omega
 ·have h:=Int.mul_nonneg (show 0≤a+c by omega) (show 0≤b-x by omega)
  have k:=Int.mul_nonneg (show 0≤a-c by omega) (show 0≤b+x by omega)
  have e1:(a+c)*(b-x)=a*b-a*x+c*b-c*x:=by rw [Int.add_mul,Int.mul_sub,Int.mul_sub];omega
  have e2:(a-c)*(b+x)=a*b+a*x-c*b-c*x:=by rw [Int.sub_mul,Int.mul_add,Int.mul_add];omega
  rw [e1] at h;rw [e2] at k;omega
theorem Z8(cs:List Int):dot cs []=0:=by cases cs<;>rfl
theorem aBk: ∀{cs xs:List Int} {c x:Int},cs[xs.length]? =some c→dot cs (xs++[x])=dot cs xs+c*x
 | [],xs,c,x,h=>by simp at h
 |d::cs,[],c,x,h=>by simp at h;subst h;simp [dot,Z8]
 |d::cs,y::xs,c,x,h=>by
  have h:cs[xs.length]? =some c:=by simpa using h
  simp only [List.cons_append,dot];rw [aBk h];omega
theorem aBj{cs xs:List Int}{i:Nat}{c x:Int}(hc:cs[i]? =some c)(hx:xs[i]? =some x):dot cs (xs.take (i+1))=dot cs (xs.take i)+c*x:=by
 have hi:=(List.getElem?_eq_some_iff.1 hx).1
 rw [List.take_add_one,hx]
 exact aBk (by simpa [Nat.min_eq_left (Nat.le_of_lt hi)] using hc)
theorem aGy{M:Int}(hM:0≤M): ∀{cs xs:List Int},(∀c∈cs,B4 9 c)→(∀x∈xs,B4 M x)→B4 (9*M*xs.length) (dot cs xs)
 | [],xs,_,_=>by
  have:0≤9*M*(xs.length:Int):=Int.mul_nonneg (by omega) (by omega)
  simp only [dot,B4];omega
 |d::cs,[],_,_=>by simp [dot,B4]
 |d::cs,y::xs,hc,hx=>by
  have h1:=aGy hM (cs:=cs) (xs:=xs) (fun c h=>hc c (by simp [h])) (fun x h=>hx x (by simp [h]))
  have h2:=aFD (by omega) hM (hc d (by simp)) (hx y (by simp))
  have e:9*M*((y::xs).length:Int)=9*M*(xs.length:Int)+9*M:=by simp [Int.mul_add]
  rw [e]
  simp only [dot,B4] at*
  omega
def lC(lo hi:Int):List Int:=(List.range (hi-lo).toNat).map (fun(i:Nat)=>lo+(i:Int))
theorem aHq{lo hi v:Int}:v∈lC lo hi↔lo≤v∧v<hi:=by
 simp only [lC,List.mem_map,List.mem_range]
 constructor
 ·rintro⟨i,hi,rfl⟩;omega
 ·intro h;exact⟨(v-lo).toNat,by omega,by omega⟩
theorem iD{lo hi:Int}(h:hi≤lo):lC lo hi=[]:=by
 unfold lC;rw [show(hi-lo).toNat=0 by omega];rfl
theorem nP{lo hi:Int}(h:lo≤hi):lC lo (hi+1)=lC lo hi++[hi]:=by
 unfold lC
 rw [show(hi+1-lo).toNat=(hi-lo).toNat+1 by omega,List.range_succ,List.map_append]
 simp;omega
theorem tW{lo v hi:Int}(h1:lo≤v)(h2:v<hi):lC lo hi=lC lo v++v::lC (v+1) hi:=by
 obtain⟨k,hk⟩: ∃k:Nat,hi=v+1+k:=⟨(hi-v-1).toNat,by omega⟩
 subst hk
 clear h2
 induction k with
 |zero=>
  rw [show v+1+((0:Nat):Int)=v+1 by omega,nP h1,iD (Int.le_refl _)]
 |succ k ih=>
  rw [show v+1+((k+1:Nat):Int)=v+1+(k:Int)+1 by omega,nP (by omega),ih,nP (by omega)]
  simp
theorem C2{α:Type}{f:α→Option Bool}{p:α→Bool}{l:List α}(hf: ∀x∈l,f x=some (p x)){n:Nat}(hl:l.length<n)(hl2:l.length≤1000000):
  ∃r:Int,aL (fun again2 (x1:Int)=>bif decide (x1<(l.length:Int)) then(Option.bind (ix l x1) fun x3=>Option.bind (f x3) fun x4=>bif x4 then(some x1) else(again2 (wr (x1+1)))) else(some (-1))) n 0=some r∧decide (0≤r)=l.any p:=by
 suffices h:Ev (aL (fun again2 (x1:Int)=>bif decide (x1<(l.length:Int)) then(Option.bind (ix l x1) fun x3=>Option.bind (f x3) fun x4=>bif x4 then(some x1) else(again2 (wr (x1+1)))) else(some (-1))) n 0) (fun r=>decide (0≤r)=l.any p) by exact h
 refine Ev.loop (fun x:Int=>0≤x∧x≤l.length∧(l.take x.toNat).any p=false) (fun x:Int=>l.length-x.toNat) ?_ n 0 ⟨by omega,by omega,by simp⟩ (by simp;omega)
 rintro again x ⟨h0,h1,h2⟩ hr
 refine aG (fun hlt=> ?_) (fun hge=> ?_)
 ·obtain⟨y,hy,hy2⟩:=kR h0 hlt
  have hm:=List.mem_of_getElem? hy2
  refine aA hy (aA (hf y hm) (Ev.cond (fun ht=>Ev.some ?_) (fun hfl=> ?_)))
  ·rw [show l.any p=true from List.any_eq_true.2 ⟨y,hm,ht⟩];simp [h0]
  ·rw [aM (by omega)]
   refine hr _ ⟨by omega,by omega,?_⟩ (by omega)
   rw [show(x+1).toNat=x.toNat+1 by omega,List.take_add_one,hy2]
   simp [h2,hfl]
 ·refine Ev.some ?_
  have hx:x.toNat=l.length:=by omega
  rw [hx,List.take_length] at h2
  rw [h2];simp
theorem mR{f:Int→Option Bool}{p:Int→Bool}{l:List Int}(hf: ∀x∈l,f x=some (p x)){n:Nat}(hl:l.length<n)(hl2:l.length≤1000000):bJ n l f=some (l.any p):=by
 obtain⟨r,h1,h2⟩:=C2 hf hl hl2
 unfold bJ jA
 rw [h1,←h2];rfl
theorem rO{f:Affine→Option Bool}{p:Affine→Bool}{l:List Affine}(hf: ∀x∈l,f x=some (p x)){n:Nat}(hl:l.length<n)(hl2:l.length≤1000000):cF n l f=some (l.any p):=by
 obtain⟨r,h1,h2⟩:=C2 hf hl hl2
 unfold cF fV
 rw [h1,←h2];rfl
theorem O7{f:Stmt→Option Bool}{p:Stmt→Bool}{l:List Stmt}(hf: ∀x∈l,f x=some (p x)){n:Nat}(hl:l.length<n)(hl2:l.length≤1000000):dX n l f=some (l.any p):=by
 obtain⟨r,h1,h2⟩:=C2 hf hl hl2
 unfold dX iE
 rw [h1,←h2];rfl
theorem zZ{f:Access→Option Bool}{p:Access→Bool}{l:List Access}(hf: ∀x∈l,f x=some (p x)){n:Nat}(hl:l.length<n)(hl2:l.length≤1000000):cZ n l f=some (l.any p):=by
 obtain⟨r,h1,h2⟩:=C2 hf hl hl2
 unfold cZ fW
 rw [h1,←h2];rfl
theorem mW{α:Type}{l:List α}{p:Nat→α→Bool}{Q:Bool→Prop}{body:(Int→Option Bool)→Int→Option Bool}{n:Nat}(hl:l.length<n)(hl2:l.length≤1000000)
  (hstep: ∀again (i:Nat) x,l[i]? =some x→(p i x=true→Ev (again ((i:Int)+1)) Q)→(p i x=false→Q false)→Ev (body again (i:Int)) Q)
  (hend: ∀again,(∀(i:Nat) x,l[i]? =some x→p i x=true)→Ev (body again (l.length:Int)) Q) (hbad:(∃(i:Nat) (x:α),l[i]? =some x∧p i x=false)→Q false):Ev (aL body n 0) Q:=by
 refine Ev.loop (fun x:Int=> ∃i:Nat,x=i∧i≤l.length∧ ∀(j:Nat) y,j<i→l[j]? =some y→p j y=true) (fun x:Int=>l.length-x.toNat) ?_ n 0 ⟨0,rfl,by omega,fun j y h=>by omega⟩ (by simp;omega)
 rintro again x ⟨i,rfl,hi,ha⟩ hr
 by_cases hlt:i<l.length
 ·have hx:=List.getElem?_eq_getElem hlt
  refine hstep again i _ hx (fun hp=>hr _ ⟨i+1,by omega,by omega,fun j y hj hy=> ?_⟩ (by omega)) (fun hp=>hbad ⟨i,_,hx,hp⟩)
  by_cases hji:j=i
  ·subst hji;rw [hx] at hy;cases hy;exact hp
  ·exact ha j y (by omega) hy
 ·have hil:i=l.length:=by omega
  subst hil
  exact hend again (fun j y hy=>ha j y (List.getElem?_eq_some_iff.1 hy).1 hy)
def dB(a:Affine):Bool:=decide (a.coefs.length=4)&&(decide (-99≤a.const∧a.const≤99)&&a.coefs.all (fun c=>decide (-9≤c∧c≤9)))
theorem rK{a:Affine}(h:dB a=true):a.coefs.length=4∧B4 99 a.const∧ ∀c∈a.coefs,B4 9 c:=by
 simp only [dB,Bool.and_eq_true,decide_eq_true_eq,List.all_eq_true] at h
 exact⟨h.1,h.2.1,h.2.2⟩
theorem eI(n:Nat)(x a b:Int):cC n x a b=some (decide (a≤x∧x≤b)):=by
 unfold cC
 by_cases h1:a≤x<;>by_cases h2:x≤b<;>simp [jn,h1,h2]
theorem pX{n:Nat}(hn:5000≤n)(a:Affine)(ha:a.coefs.length≤1000):fH n a=some (dB a):=by
 have hf: ∀x∈a.coefs,eO n x=some (!decide (-9≤x∧x≤9)):=fun x _=>by unfold eO;rw [eI];rfl
 have hc:=mR (n:=n) hf (by omega) (by omega)
 unfold fH t7
 rw [eI]
 simp only [jn,Option.bind]
 rw [hc]
 unfold dB
 have e:(a.coefs.any fun x=> !decide (-9≤x∧x≤9))= !(a.coefs.all fun c=>decide (-9≤c∧c≤9)):=by
  rw [List.all_eq_not_any_not];simp
 rw [e]
 by_cases h1:a.coefs.length=4
 ·rw [decide_eq_true (show(a.coefs.length:Int)=4 by omega),decide_eq_true h1]
  generalize decide (-99≤a.const∧a.const≤99)=b
  cases b<;>simp
 ·rw [decide_eq_false (show¬(a.coefs.length:Int)=4 by omega),decide_eq_false h1];rfl
theorem sG(n:Nat)(x m:Int)(hm:0≤m∧m≤1000000000):jE n x m=some (decide (-m≤x∧x≤m)):=by
 unfold jE
 rw [aM (by omega)]
 by_cases h1: -m≤x<;>by_cases h2:x≤m
 ·simp [jn,h1,h2]
 ·simp [jn,h1,h2]
 ·simp [jn,h1,h2]
 ·simp [jn,h1,h2]
theorem lA{n:Nat}(hn:5000≤n)(a:Affine)(ha:a.coefs.length≤1000):d4 n a=some (dB a):=by
 refine Ev.eq ?_
 unfold d4
 refine mW (l:=a.coefs) (p:=fun _ c=>decide (-9≤c∧c≤9)) (by omega) (by omega) (fun again i x hx hgo hno=> ?_) (fun again hall=> ?_) (fun⟨i,x,hx,hp⟩=> ?_)
 ·rw [decide_eq_true (show(i:Int)<(a.coefs.length:Int) by have:=(List.getElem?_eq_some_iff.1 hx).1;omega)]
  refine aA (aO hx) (aA (sG n x 9 (by omega)) ?_)
  have hi:=(List.getElem?_eq_some_iff.1 hx).1
  cases hp:decide (-9≤x∧x≤9) with
  |true=>show Ev (again _) _;rw [aM (by omega)];exact hgo hp
  |false=>exact Ev.some (hno hp)
 ·rw [decide_eq_false (show¬(a.coefs.length:Int)<(a.coefs.length:Int) by omega)]
  have e:a.coefs.all (fun c=>decide (-9≤c∧c≤9))=true:=List.all_eq_true.2 (fun c hc=>by obtain⟨i,hi⟩:=List.getElem?_of_mem hc;exact hall i c hi)
  refine Ev.cond (fun h=>(by cases h)) (fun _=> ?_)
  unfold dB
  rw [e]
  refine Ev.jn (fun z:Bool=>z=(decide (a.coefs.length=4)&&(decide (-99≤a.const∧a.const≤99)&&true))) (fun j hj=> ?_) (fun z hz=>Ev.some hz)
  refine aG (fun h=>aA (sG n a.const 99 (by omega)) (hj _ ?_)) (fun h=>hj _ ?_)
  ·rw [decide_eq_true (show a.coefs.length=4 by omega)];simp
  ·rw [decide_eq_false (show¬a.coefs.length=4 by omega)];rfl
 ·unfold dB
  have e:a.coefs.all (fun c=>decide (-9≤c∧c≤9))=false:=List.all_eq_false.2 ⟨x,List.mem_of_getElem? hx,by rw [hp];simp⟩
  rw [e];simp
def fU(a:Affine)(p:List Int):Int:=a.const+dot a.coefs p
def ptB(M:Int)(p:List Int):Prop:= ∀x∈p,B4 M x
theorem uA{a:Affine}(ha:dB a=true){p:List Int}(hp:p.length≤4){M:Int}(hM:0≤M∧M≤1000000000)(hB:ptB M p)(i:Nat)(hi:i≤p.length):B4 1000000000000 (a.const+dot a.coefs (p.take i)):=by
 obtain⟨h1,h2,h3⟩:=rK ha
 have h4:=aGy (M:=M) hM.1 (cs:=a.coefs) (xs:=p.take i) h3 (fun x hx=>hB x (List.mem_of_mem_take hx))
 have h5:(p.take i).length≤4:=by simp;omega
 have h6:9*M*((p.take i).length:Int)≤9*M*4:=Int.mul_le_mul_of_nonneg_left (by omega) (by omega)
 simp only [B4] at*
 omega
theorem aEm{n:Nat}(hn:5000≤n){a:Affine}(ha:dB a=true){p:List Int}(hp:p.length≤4){M:Int}(hM:0≤M∧M≤1000000000)(hB:ptB M p):b7 n a p=some (fU a p):=by
 obtain⟨h1,h2,h3⟩:=rK ha
 refine Ev.eq ?_
 unfold b7
 refine Ev.loop (fun x:Int×Int=> ∃i:Nat,x.2=i∧i≤p.length∧x.1=a.const+dot a.coefs (p.take i)) (fun x=>p.length-x.2.toNat) ?_ n _ ⟨0,rfl,by omega,by simp [Z8]⟩ (by simp;omega)
 rintro again ⟨x,k⟩ ⟨i,hk,hi,hx⟩ hr
 dsimp only at hk hx⊢
 subst hk
 refine aG (fun hlt=> ?_) (fun hge=>Ev.some ?_)
 ·have hlt:i<p.length:=by omega
  have hp2:=List.getElem?_eq_getElem hlt
  have hc2:=List.getElem?_eq_getElem (show i<a.coefs.length by omega)
  have hd:=aBj hc2 hp2
  have e1:=uA ha hp hM hB i hi
  have e2:=uA ha hp hM hB (i+1) (by omega)
  rw [hd] at e2
  have e3:=aFD (by omega) hM.1 (h3 _ (List.mem_of_getElem? hc2)) (hB _ (List.mem_of_getElem? hp2))
  refine aA (aO hp2) (aA (aO hc2) ?_)
  simp only [B4] at e1 e2 e3
  rw [aM (n:=a.coefs[i]*p[i]) (by omega),aM (by omega),aM (by omega)]
  refine hr _ ⟨i+1,by dsimp only;omega,by omega,?_⟩ (by dsimp only;omega)
  dsimp only
  rw [hd,hx];omega
 ·have:i=p.length:=by omega
  rw [hx,this,List.take_length];rfl
theorem aD6{n:Nat}(hn:5000≤n){a:Affine}(ha:dB a=true){p:List Int}(hp:p.length≤4){M:Int}(hM:0≤M∧M≤1000000000)(hB:ptB M p):gP n a p=some (fU a p):=by
 obtain⟨h1,h2,h3⟩:=rK ha
 refine Ev.eq ?_
 unfold gP
 refine Ev.loop (fun x:Int×Int=> ∃i:Nat,x.2=i∧i≤p.length∧x.1=a.const+dot a.coefs (p.take i)) (fun x=>p.length-x.2.toNat) ?_ n _ ⟨0,rfl,by omega,by simp [Z8]⟩ (by simp;omega)
 rintro again ⟨x,k⟩ ⟨i,hk,hi,hx⟩ hr
 dsimp only at hk hx⊢
 subst hk
 refine Ev.jn (fun z=>z=decide (i<p.length)) (fun j hj=>aG (fun h=>hj _ ?_) (fun h=>hj _ ?_)) (fun z hz=> ?_)
 ·rw [decide_eq_true (show i<p.length by omega),decide_eq_true (show(i:Int)<(a.coefs.length:Int) by omega)]
 ·rw [decide_eq_false (show¬i<p.length by omega)]
 subst hz
 refine aG (fun hlt=> ?_) (fun hge=>Ev.some ?_)
 ·have hp2:=List.getElem?_eq_getElem hlt
  have hc2:=List.getElem?_eq_getElem (show i<a.coefs.length by omega)
  have hd:=aBj hc2 hp2
  have e1:=uA ha hp hM hB i hi
  have e2:=uA ha hp hM hB (i+1) (by omega)
  rw [hd] at e2
  have e3:=aFD (by omega) hM.1 (h3 _ (List.mem_of_getElem? hc2)) (hB _ (List.mem_of_getElem? hp2))
  refine aA (aO hc2) (aA (aO hp2) ?_)
  simp only [B4] at e1 e2 e3
  rw [aM (n:=a.coefs[i]*p[i]) (by omega),aM (by omega),aM (by omega)]
  refine hr _ ⟨i+1,by dsimp only;omega,by omega,?_⟩ (by dsimp only;omega)
  dsimp only
  rw [hd,hx];omega
 ·have:i=p.length:=by omega
  rw [hx,this,List.take_length];rfl
theorem bQ{R:Type}{Q:R→Prop}{A B:Option R}(h:Ev A Q):Ev (bif true then A else B) Q:=h
theorem bW{R:Type}{Q:R→Prop}{A B:Option R}(h:Ev B Q):Ev (bif false then A else B) Q:=h
def gX:List Int→Nat
 | []=>0
 |c::cs=>if gX cs=0 then(if c=0 then 0 else 1) else gX cs+1
theorem zI: ∀(l:List Int) (c:Int),gX (l++[c])=if c=0 then gX l else l.length+1
 | [],c=>by simp [gX]
 |d::l,c=>by
  have ih:=zI l c
  simp only [List.cons_append,gX,ih]
  by_cases hc:c=0
  ·simp [hc]
  ·simp [hc]
theorem zH{l:List Int}{i:Nat}{c:Int}(h:l[i]? =some c):gX (l.take (i+1))=if c=0 then gX (l.take i) else i+1:=by
 have hi:=(List.getElem?_eq_some_iff.1 h).1
 rw [List.take_add_one,h]
 show gX (l.take i++[c])=_
 rw [zI,List.length_take,Nat.min_eq_left (Nat.le_of_lt hi)]
def SmA(a:Affine):Prop:=a.coefs.length≤1000
def A2(l:List Affine):Prop:=l.length≤1000∧ ∀a∈l,SmA a
theorem uW{n:Nat}(hn:5000≤n){a:Affine}(ha:SmA a):kY n a=some (gX a.coefs:Int):=by
 have ha:a.coefs.length≤1000:=ha
 refine Ev.eq ?_
 unfold kY
 refine Ev.loop (fun x:Int×Int=> ∃i:Nat,x.2=i∧i≤a.coefs.length∧x.1=(gX (a.coefs.take i):Int)) (fun x=>a.coefs.length-x.2.toNat) ?_ n _ ⟨0,rfl,by omega,by simp [gX]⟩ (by simp;omega)
 rintro again ⟨x,k⟩ ⟨i,hk,hi,hx⟩ hr
 dsimp only at hk hx⊢
 subst hk
 refine aG (fun hlt=> ?_) (fun hge=>Ev.some ?_)
 ·have hlt:i<a.coefs.length:=by omega
  have hc:=List.getElem?_eq_getElem hlt
  have hd:=zH hc
  refine Ev.jn (fun z:Int=>z=(gX (a.coefs.take (i+1)):Int)) (fun j hj=>aA (aO hc) (gL (fun h0=>hj _ ?_) (fun h0=>hj _ ?_))) (fun z hz=> ?_)
  ·rw [hd,if_neg h0,aM (by omega)];omega
  ·rw [hd,if_pos h0,hx]
  ·rw [aM (by omega)]
   exact hr _ ⟨i+1,by dsimp only;omega,by omega,hz⟩ (by dsimp only;omega)
 ·have:i=a.coefs.length:=by omega
  rw [hx,this,List.take_length]
theorem I7{n:Nat}(hn:5000≤n){a:Affine}(ha:SmA a):eG n a=some (gX a.coefs:Int):=by
 have ha:a.coefs.length≤1000:=ha
 refine Ev.eq ?_
 unfold eG
 refine Ev.loop (fun x:Int=> ∃i:Nat,x=i∧i≤a.coefs.length∧gX a.coefs=gX (a.coefs.take i)) (fun x=>x.toNat) ?_ n _ ⟨a.coefs.length,rfl,by omega,by rw [List.take_length]⟩ (by simp;omega)
 rintro again x ⟨i,rfl,hi,hx⟩ hr
 cases i with
 |zero=>
  refine Ev.jn (fun z=>z=false) (fun j hj=>aG (fun h=>absurd h (by decide)) (fun h=>hj _ rfl)) (fun z hz=> ?_)
  subst hz
  exact Ev.some (by rw [hx];rfl)
 |succ i=>
  have hlt:i<a.coefs.length:=by omega
  have hc:=List.getElem?_eq_getElem hlt
  have hd:=zH hc
  have e:wr (((i+1:Nat):Int)-1)=(i:Int):=by rw [aM (by omega)];omega
  rw [e]
  refine Ev.jn (fun z=>z=decide (a.coefs[i]=0)) (fun j hj=>aG (fun h=>aA (aO hc) (hj _ rfl)) (fun h=>absurd (show(0:Int)<((i+1:Nat):Int) by omega) h)) (fun z hz=> ?_)
  subst hz
  refine aG (fun h0=> ?_) (fun h0=>Ev.some ?_)
  ·exact hr _ ⟨i,rfl,by omega,by rw [hx,hd,if_pos h0]⟩ (by omega)
  ·rw [hx,hd,if_neg h0]
def bU(a:Affine)(d:Int):Bool:=dB a&&decide ((gX a.coefs:Int)≤d)
def cK(l:List Affine)(d:Int):Bool:=l.all (fun a=>bU a d)&&decide (1≤l.length∧l.length≤2)
theorem ltd(a b:Int):decide (a<b)= !decide (b≤a):=by
 by_cases h:a<b
 ·rw [decide_eq_true h,decide_eq_false (by omega)];rfl
 ·rw [decide_eq_false h,decide_eq_true (by omega)];rfl
theorem zB{n:Nat}(hn:5000≤n){l:List Affine}(hl:A2 l)(d:Int):pI n l d=some (cK l d):=by
 obtain⟨h0,h1⟩:=hl
 refine Ev.eq ?_
 unfold pI
 refine mW (l:=l) (p:=fun _ a=>bU a d) (by omega) (by omega) (fun again i x hx hgo hno=> ?_) (fun again hall=> ?_) (fun⟨i,x,hx,hp⟩=> ?_)
 ·have hi:=(List.getElem?_eq_some_iff.1 hx).1
  have hm:=h1 x (List.mem_of_getElem? hx)
  rw [decide_eq_true (show(i:Int)<(l.length:Int) by omega)]
  refine bQ (Ev.jn (fun z=>z= !bU x d) (fun j hj=>aA (aO hx) (aA (lA hn x hm) ?_)) (fun z hz=> ?_))
  ·cases ha:dB x with
   |false=>exact hj _ (by unfold bU;rw [ha];rfl)
   |true=>exact aA (uW hn hm) (hj _ (by unfold bU;rw [ha,ltd];simp))
  ·subst hz
   cases hb:bU x d with
   |true=>show Ev (again _) _;rw [aM (by omega)];exact hgo hb
   |false=>exact Ev.some (hno hb)
 ·rw [decide_eq_false (show¬(l.length:Int)<(l.length:Int) by omega)]
  have e:l.all (fun a=>bU a d)=true:=List.all_eq_true.2 (fun c hc=>by obtain⟨i,hi⟩:=List.getElem?_of_mem hc;exact hall i c hi)
  unfold cK
  rw [e]
  refine bW (Ev.jn (fun z=>z=decide (1≤l.length∧l.length≤2)) (fun j hj=>aG (fun h=>hj _ ?_) (fun h=>hj _ ?_)) (fun z hz=>Ev.some (by rw [hz];rfl)))
  ·by_cases h2:l.length≤2
   ·rw [decide_eq_true (show(l.length:Int)≤2 by omega),decide_eq_true (by omega)]
   ·rw [decide_eq_false (show¬(l.length:Int)≤2 by omega),decide_eq_false (by omega)]
  ·rw [decide_eq_false (by omega)]
 ·unfold cK
  rw [List.all_eq_false.2 ⟨x,List.mem_of_getElem? hx,by rw [hp];simp⟩];rfl
theorem I8{n:Nat}(hn:5000≤n){a:Affine}(ha:SmA a)(d:Int):fX n a d=some (!bU a d):=by
 unfold fX
 rw [pX hn a ha]
 simp only [jn,Option.bind]
 cases hb:dB a with
 |false=>simp [bU,hb]
 |true=>
  rw [I7 hn ha]
  simp only [bU,hb,Bool.not_true,cond_false,Bool.true_and]
  rw [ltd]
theorem qW(n k:Nat):cC n (k:Int) 1 2=some (decide (1≤k∧k≤2)):=by
 rw [eI]
 congr 1
 by_cases h:1≤k∧k≤2
 ·rw [decide_eq_true h,decide_eq_true (by omega)]
 ·rw [decide_eq_false h,decide_eq_false (by omega)]
theorem uK{n:Nat}(hn:5000≤n){l:List Affine}(hl:A2 l)(d:Int):lH n l d=some (cK l d):=by
 obtain⟨h0,h1⟩:=hl
 unfold lH
 rw [qW]
 have hc:=rO (n:=n) (f:=fun q0=>fX n q0 d) (p:=fun a=> !bU a d) (l:=l) (fun x hx=>I8 hn (h1 x hx) d) (by omega) (by omega)
 simp only [jn,Option.bind]
 rw [hc]
 unfold cK
 have e:(l.any fun a=> !bU a d)= !(l.all fun a=>bU a d):=by
  rw [List.all_eq_not_any_not];simp
 rw [e]
 cases decide (1≤l.length∧l.length≤2)<;>simp
def I5{α:Type}(p:Nat→α→Bool)(l:List α):Bool:=l.zipIdx.all fun q=>p q.2 q.1
theorem oJ{α:Type}{p:Nat→α→Bool}{l:List α}(h: ∀(i:Nat) x,l[i]? =some x→p i x=true):I5 p l=true:=
 List.all_eq_true.2 (fun q hq=>h q.2 q.1 (List.mem_zipIdx_iff_getElem?.1 hq))
theorem mP{α:Type}{p:Nat→α→Bool}{l:List α}{i:Nat}{x:α}(h:l[i]? =some x)(hp:p i x=false):I5 p l=false:=
 List.all_eq_false.2 ⟨(x,i),List.mem_zipIdx_iff_getElem?.2 h,by rw [hp];simp⟩
theorem I4{α:Type}{p:Nat→α→Bool}{l:List α}(h:I5 p l=true){i:Nat}{x:α}(hx:l[i]? =some x):p i x=true:=
 List.all_eq_true.1 h (x,i) (List.mem_zipIdx_iff_getElem?.2 hx)
def kE(nest:List Loop):Bool:=I5 (fun i l=>cK l.lo (i:Int)&&cK l.hi (i:Int)) nest&&decide (nest.length≤4)
def SmN(nest:List Loop):Prop:=nest.length≤1000∧ ∀l∈nest,A2 l.lo∧A2 l.hi
theorem J0{n:Nat}(hn:5000≤n){nest:List Loop}(h:SmN nest):l7 n nest=some (kE nest):=by
 obtain⟨h0,h1⟩:=h
 refine Ev.eq ?_
 unfold l7
 refine mW (l:=nest) (p:=fun i l=>cK l.lo (i:Int)&&cK l.hi (i:Int)) (by omega) (by omega) (fun again i x hx hgo hno=> ?_) (fun again hall=> ?_) (fun⟨i,x,hx,hp⟩=> ?_)
 ·have hi:=(List.getElem?_eq_some_iff.1 hx).1
  obtain⟨m1,m2⟩:=h1 x (List.mem_of_getElem? hx)
  rw [decide_eq_true (show(i:Int)<(nest.length:Int) by omega)]
  refine aA (aO hx) (Ev.jn (fun z=>z= !(cK x.lo (i:Int)&&cK x.hi (i:Int))) (fun j hj=>aA (uK hn m1 _) ?_) (fun z hz=> ?_))
  ·cases ha:cK x.lo (i:Int) with
   |false=>exact hj _ (by rw [ha];rfl)
   |true=>exact aA (uK hn m2 _) (hj _ (by rw [ha];rfl))
  ·subst hz
   cases hb:(cK x.lo (i:Int)&&cK x.hi (i:Int)) with
   |true=>show Ev (again _) _;rw [aM (by omega)];exact hgo hb
   |false=>exact Ev.some (hno hb)
 ·rw [decide_eq_false (show¬(nest.length:Int)<(nest.length:Int) by omega)]
  refine Ev.some ?_
  unfold kE
  rw [oJ hall,Bool.true_and]
  exact decide_eq_decide.2 (by omega)
 ·unfold kE;rw [mP hx hp];rfl
theorem E6{n:Nat}(hn:5000≤n){nest:List Loop}(h:SmN nest):lZ n nest=some (kE nest):=by
 obtain⟨h0,h1⟩:=h
 unfold lZ
 by_cases h4:nest.length≤4
 ·rw [decide_eq_true (show(nest.length:Int)≤4 by omega)]
  refine Ev.eq ?_
  refine mW (l:=nest) (p:=fun i l=>cK l.lo (i:Int)&&cK l.hi (i:Int)) (by omega) (by omega) (fun again i x hx hgo hno=> ?_) (fun again hall=> ?_) (fun⟨i,x,hx,hp⟩=> ?_)
  ·have hi:=(List.getElem?_eq_some_iff.1 hx).1
   obtain⟨m1,m2⟩:=h1 x (List.mem_of_getElem? hx)
   rw [decide_eq_true (show(i:Int)<(nest.length:Int) by omega)]
   refine Ev.jn (fun z=>z=true) (fun j hj=>bQ (hj _ rfl)) (fun z hz=> ?_)
   subst hz
   refine bQ (Ev.jn (fun z=>z= !(cK x.lo (i:Int)&&cK x.hi (i:Int))) (fun j hj=>aA (aO hx) (aA (zB hn m1 _) ?_)) (fun z hz=> ?_))
   ·cases ha:cK x.lo (i:Int) with
    |false=>exact hj _ (by rw [ha];rfl)
    |true=>exact aA (zB hn m2 _) (hj _ (by rw [ha];rfl))
   ·subst hz
    cases hb:(cK x.lo (i:Int)&&cK x.hi (i:Int)) with
    |true=>show Ev (again _) _;rw [aM (by omega)];exact hgo hb
    |false=>exact Ev.some (hno hb)
  ·rw [decide_eq_false (show¬(nest.length:Int)<(nest.length:Int) by omega)]
   refine Ev.jn (fun z=>z=false) (fun j hj=>bW (hj _ rfl)) (fun z hz=> ?_)
   subst hz
   refine Ev.some ?_
   unfold kE
   rw [oJ hall,decide_eq_true h4];rfl
  ·unfold kE;rw [mP hx hp];rfl
 ·obtain⟨k,rfl⟩: ∃k,n=k+1:=⟨n-1,by omega⟩
  rw [decide_eq_false (show¬(nest.length:Int)≤4 by omega)]
  unfold kE
  rw [decide_eq_false h4,Bool.and_false]
  simp only [aL,jn]
  cases decide ((0:Int)<(nest.length:Int))<;>rfl
def mx:List Int→Int
 | []=>0
 |x::xs=>xs.foldl max x
def mn:List Int→Int
 | []=>0
 |x::xs=>xs.foldl min x
theorem aHA{l:List Int}(h:l≠[])(x:Int):mx (l++[x])=max (mx l) x:=by
 cases l with
 |nil=>exact absurd rfl h
 |cons a l=>simp [mx,List.foldl_append]
theorem aHC{l:List Int}(h:l≠[])(x:Int):mn (l++[x])=min (mn l) x:=by
 cases l with
 |nil=>exact absurd rfl h
 |cons a l=>simp [mn,List.foldl_append]
theorem aH9: ∀(l:List Int) (a:Int),a≤l.foldl max a
 | [],a=>Int.le_refl _
 |x::l,a=>Int.le_trans (Int.le_max_left a x) (aH9 l (max a x))
theorem aIa: ∀(l:List Int) (a:Int),l.foldl min a≤a
 | [],a=>Int.le_refl _
 |x::l,a=>Int.le_trans (aIa l (min a x)) (Int.min_le_left a x)
def evs(l:List Affine)(p:List Int):List Int:=l.map (fun a=>fU a p)
def lF(l:Loop)(p:List Int):Int:=mx (evs l.lo p)
def qJ(l:Loop)(p:List Int):Int:=mn (evs l.hi p)
def oB(k:Nat)(p:List Int):Prop:=p.length=k∧k≤4∧ptB (100*40^k) p
theorem G0{k:Nat}(h:k≤4):(0:Int)≤100*40^k∧(100:Int)*40^k≤1000000000:=by
 match k,h with
 |0,_=>decide
 |1,_=>decide
 |2,_=>decide
 |3,_=>decide
 |4,_=>decide
theorem sD{l:List Affine}{d:Int}(h:cK l d=true):1≤l.length∧l.length≤2∧ ∀a∈l,dB a=true:=by
 simp only [cK,Bool.and_eq_true,decide_eq_true_eq,List.all_eq_true] at h
 refine⟨h.2.1,h.2.2,fun a ha=> ?_⟩
 have:=h.1 a ha
 simp only [bU,Bool.and_eq_true] at this
 exact this.1
theorem aF1{a:Affine}(ha:dB a=true){k:Nat}{p:List Int}(hp:oB k p)(hk:k≤3): -(40*(100*40^k))≤fU a p∧fU a p≤40*(100*40^k):=by
 obtain⟨h1,h2,h3⟩:=rK ha
 obtain⟨p1,p2,p3⟩:=hp
 obtain⟨q1,q2⟩:=G0 (k:=k) (by omega)
 have hq:(100:Int)≤100*40^k:=by
  match k,hk with
  |0,_=>decide
  |1,_=>decide
  |2,_=>decide
  |3,_=>decide
 generalize (100*40^k:Int)=M at*
 have h4:=aGy (M:=M) q1 (cs:=a.coefs) (xs:=p) h3 (fun x hx=>p3 x hx)
 have h6:9*M*(p.length:Int)≤9*M*3:=Int.mul_le_mul_of_nonneg_left (by omega) (by omega)
 simp only [B4] at*
 unfold fU
 omega
theorem aFo{n:Nat}(hn:5000≤n){a:Affine}(ha:dB a=true){k:Nat}{p:List Int}(hp:oB k p):gP n a p=some (fU a p):=
 aD6 hn ha (by have:=hp.1;have:=hp.2.1;omega) (G0 hp.2.1) hp.2.2
theorem aEn{n:Nat}(hn:5000≤n){a:Affine}(ha:dB a=true){k:Nat}{p:List Int}(hp:oB k p):b7 n a p=some (fU a p):=
 aEm hn ha (by have:=hp.1;have:=hp.2.1;omega) (G0 hp.2.1) hp.2.2
theorem lR{l:List Affine}{p:List Int}{i:Nat}{a:Affine}(h:l[i]? =some a):(evs l p)[i]? =some (fU a p):=by
 unfold evs;rw [List.getElem?_map,h];rfl
theorem B7(l:List Affine)(p:List Int):(evs l p).length=l.length:=List.length_map ..
theorem aDp{α:Type}{l:List α}{i:Nat}(h:1≤i)(hl:1≤l.length):l.take i≠[]:=by
 intro e
 have:(l.take i).length=0:=by rw [e];rfl
 rw [List.length_take] at this;omega
theorem aDx{l:List Int}{i:Nat}{x:Int}(h:l[i]? =some x)(hi:1≤i):mx (l.take (i+1))=max (mx (l.take i)) x:=by
 have:=(List.getElem?_eq_some_iff.1 h).1
 rw [List.take_add_one,h]
 exact aHA (aDp hi (by omega)) x
theorem aDz{l:List Int}{i:Nat}{x:Int}(h:l[i]? =some x)(hi:1≤i):mn (l.take (i+1))=min (mn (l.take i)) x:=by
 have:=(List.getElem?_eq_some_iff.1 h).1
 rw [List.take_add_one,h]
 exact aHC (aDp hi (by omega)) x
theorem aCp{l:List Int}{x:Int}(h:l[0]? =some x):mx (l.take 1)=x:=by
 cases l with
 |nil=>simp at h
 |cons a l=>simp at h;subst h;rfl
theorem aCq{l:List Int}{x:Int}(h:l[0]? =some x):mn (l.take 1)=x:=by
 cases l with
 |nil=>simp at h
 |cons a l=>simp at h;subst h;rfl
theorem E1{n:Nat}(hn:5000≤n){l:Loop}{d d':Int}(h1:cK l.lo d=true)(h2:cK l.hi d'=true){k:Nat}{p:List Int}(hp:oB k p):mY n l p=some (lF l p,qJ l p):=by
 obtain⟨a1,a2,a3⟩:=sD h1
 obtain⟨b1,b2,b3⟩:=sD h2
 have g1:=List.getElem?_eq_getElem (show 0<l.lo.length by omega)
 have g2:=List.getElem?_eq_getElem (show 0<l.hi.length by omega)
 refine Ev.eq ?_
 unfold mY
 refine aA (aO (i:=0) g1) (aA (aFo hn (a3 _ (List.mem_of_getElem? g1)) hp) (aA (aO (i:=0) g2) (aA (aFo hn (b3 _ (List.mem_of_getElem? g2)) hp) ?_)))
 refine Ev.loop (fun x:Int×Int=> ∃i:Nat,x.2=i∧1≤i∧i≤l.lo.length∧x.1=mx ((evs l.lo p).take i)) (fun x=>l.lo.length-x.2.toNat) ?_ n _ ⟨1,rfl,by omega,by omega,(aCp (lR g1)).symm⟩ (by dsimp only;omega)
 rintro again ⟨x,z⟩ ⟨i,hz,hi1,hi,hx⟩ hr
 dsimp only at hz hx⊢
 subst hz
 refine aG (fun hlt=> ?_) (fun hge=> ?_)
 ·have g:=List.getElem?_eq_getElem (show i<l.lo.length by omega)
  have e:=aDx (lR (p:=p) g) hi1
  refine Ev.jn (fun z=>z=mx ((evs l.lo p).take (i+1))) (fun j hj=>aA (aO g) (aA (aFo hn (a3 _ (List.mem_of_getElem? g)) hp) (aG (fun h=>hj _ ?_) (fun h=>hj _ ?_)))) (fun z hz=> ?_)
  ·rw [e,←hx];omega
  ·rw [e,←hx];omega
  ·rw [aM (by omega)]
   exact hr _ ⟨i+1,by dsimp only;omega,by omega,by omega,hz⟩ (by dsimp only;omega)
 ·have hie:i=l.lo.length:=by omega
  have hx':x=lF l p:=by rw [hx,hie,←B7 l.lo p,List.take_length];rfl
  refine Ev.loop (fun x:Int×Int=> ∃i:Nat,x.2=i∧1≤i∧i≤l.hi.length∧x.1=mn ((evs l.hi p).take i)) (fun x=>l.hi.length-x.2.toNat) ?_ n _ ⟨1,rfl,by omega,by omega,(aCq (lR g2)).symm⟩ (by dsimp only;omega)
  rintro again2 ⟨y,z⟩ ⟨i,hz,hi1,hi,hy⟩ hr2
  dsimp only at hz hy⊢
  subst hz
  refine aG (fun hlt=> ?_) (fun hge=>Ev.some ?_)
  ·have g:=List.getElem?_eq_getElem (show i<l.hi.length by omega)
   have e:=aDz (lR (p:=p) g) hi1
   refine Ev.jn (fun z=>z=mn ((evs l.hi p).take (i+1))) (fun j hj=>aA (aO g) (aA (aFo hn (b3 _ (List.mem_of_getElem? g)) hp) (aG (fun h=>hj _ ?_) (fun h=>hj _ ?_)))) (fun z hz=> ?_)
   ·rw [e,←hy];omega
   ·rw [e,←hy];omega
   ·rw [aM (by omega)]
    exact hr2 _ ⟨i+1,by dsimp only;omega,by omega,by omega,hz⟩ (by dsimp only;omega)
  ·have hie:i=l.hi.length:=by omega
   rw [hx',hy,hie,←B7 l.hi p,List.take_length];rfl
theorem aEk{n:Nat}(hn:5000≤n){l:Loop}{d d':Int}(h1:cK l.lo d=true)(h2:cK l.hi d'=true){k:Nat}{p:List Int}(hp:oB k p):l9 n l p=some (lF l p,qJ l p):=by
 obtain⟨a1,a2,a3⟩:=sD h1
 obtain⟨b1,b2,b3⟩:=sD h2
 have g1:=List.getElem?_eq_getElem (show 0<l.lo.length by omega)
 have g2:=List.getElem?_eq_getElem (show 0<l.hi.length by omega)
 refine Ev.eq ?_
 unfold l9
 refine aA (aO (i:=0) g1) (aA (aEn hn (a3 _ (List.mem_of_getElem? g1)) hp) (aA (aO (i:=0) g2) (aA (aEn hn (b3 _ (List.mem_of_getElem? g2)) hp) ?_)))
 refine Ev.loop (fun x:Int×Int=> ∃i:Nat,x.2=i∧i≤l.lo.length∧x.1=mx ((evs l.lo p).take (max i 1))) (fun x=>l.lo.length-x.2.toNat) ?_ n _ ⟨0,rfl,by omega,(aCp (lR g1)).symm⟩ (by dsimp only;omega)
 rintro again ⟨x,z⟩ ⟨i,hz,hi,hx⟩ hr
 dsimp only at hz hx⊢
 subst hz
 refine aG (fun hlt=> ?_) (fun hge=> ?_)
 ·have g:=List.getElem?_eq_getElem (show i<l.lo.length by omega)
  refine aA (aO g) (aA (aEn hn (a3 _ (List.mem_of_getElem? g)) hp) ?_)
  rw [aM (by omega)]
  refine hr _ ⟨i+1,by dsimp only;omega,by omega,?_⟩ (by dsimp only;omega)
  dsimp only
  rw [show max (i+1) 1=i+1 by omega]
  cases i with
  |zero=>rw [hx,show max 0 1=1 by rfl,Nat.zero_add,aCp (lR g)];omega
  |succ i=>rw [aDx (lR (p:=p) g) (by omega),hx,show max (i+1) 1=i+1 by omega]
 ·have hie:i=l.lo.length:=by omega
  have hx':x=lF l p:=by rw [hx,hie,Nat.max_eq_left (by omega),←B7 l.lo p,List.take_length];rfl
  refine Ev.loop (fun x:Int×Int=> ∃i:Nat,x.2=i∧i≤l.hi.length∧x.1=mn ((evs l.hi p).take (max i 1))) (fun x=>l.hi.length-x.2.toNat) ?_ n _ ⟨0,rfl,by omega,(aCq (lR g2)).symm⟩ (by dsimp only;omega)
  rintro again2 ⟨y,z⟩ ⟨i,hz,hi,hy⟩ hr2
  dsimp only at hz hy⊢
  subst hz
  refine aG (fun hlt=> ?_) (fun hge=>Ev.some ?_)
  ·have g:=List.getElem?_eq_getElem (show i<l.hi.length by omega)
   refine aA (aO g) (aA (aEn hn (b3 _ (List.mem_of_getElem? g)) hp) ?_)
   rw [aM (by omega)]
   refine hr2 _ ⟨i+1,by dsimp only;omega,by omega,?_⟩ (by dsimp only;omega)
   dsimp only
   rw [show max (i+1) 1=i+1 by omega]
   cases i with
   |zero=>rw [hy,show max 0 1=1 by rfl,Nat.zero_add,aCq (lR g)];omega
   |succ i=>rw [aDz (lR (p:=p) g) (by omega),hy,show max (i+1) 1=i+1 by omega]
  ·have hie:i=l.hi.length:=by omega
   rw [hx',hy,hie,Nat.max_eq_left (by omega),←B7 l.hi p,List.take_length];rfl
theorem A9{l:Loop}{d d':Int}(h1:cK l.lo d=true)(h2:cK l.hi d'=true){k:Nat}{p:List Int}(hp:oB k p)(hk:k≤3){v:Int}(hv:lF l p≤v∧v<qJ l p):oB (k+1) (p++[v]):=by
 obtain⟨a1,a2,a3⟩:=sD h1
 obtain⟨b1,b2,b3⟩:=sD h2
 have e1: -(40*(100*40^k))≤lF l p:=by
  cases hl:l.lo with
  |nil=>rw [hl] at a1;simp at a1
  |cons a as=>
   have:=(aF1 (a3 a (by rw [hl];simp)) hp hk).1
   unfold lF evs;rw [hl]
   exact Int.le_trans this (aH9 _ _)
 have e2:qJ l p≤40*(100*40^k):=by
  cases hl:l.hi with
  |nil=>rw [hl] at b1;simp at b1
  |cons a as=>
   have:=(aF1 (b3 a (by rw [hl];simp)) hp hk).2
   unfold qJ evs;rw [hl]
   exact Int.le_trans (aIa _ _) this
 obtain⟨p1,p2,p3⟩:=hp
 have e3:(100*40^(k+1):Int)=40*(100*40^k):=by rw [Int.pow_succ];omega
 have q:=(G0 (k:=k) (by omega)).1
 refine⟨by simp [p1],by omega,fun x hx=> ?_⟩
 rw [e3]
 rcases List.mem_append.1 hx with h|h
 ·have:=p3 x h
  simp only [B4] at this⊢
  omega
 ·simp at h;subst h
  simp only [B4]
  omega
def pts:List Loop→List Int→List (List Int)
 | [],p=>[p]
 |l::ls,p=>(lC (lF l p) (qJ l p)).flatMap (fun v=>pts ls (p++[v]))
def wk:List Loop→List Int→Int
 | [],_=>1
 |l::ls,p=>1+((lC (lF l p) (qJ l p)).map (fun v=>wk ls (p++[v]))).sum
theorem nD{α:Type}(f:α→Int): ∀(l:List α),(∀x∈l,1≤f x)→(l.length:Int)≤(l.map f).sum
 | [],_=>by simp
 |x::l,h=>by
  have h1:=nD f l (fun y hy=>h y (by simp [hy]))
  have h2:=h x (by simp)
  simp only [List.map_cons,List.sum_cons,List.length_cons];omega
theorem V4: ∀(ls:List Loop) (p:List Int),1≤wk ls p
 | [],p=>Int.le_refl _
 |l::ls,p=>by
  have:=nD (fun v=>wk ls (p++[v])) (lC (lF l p) (qJ l p)) (fun v _=>V4 ls _)
  simp only [wk];omega
def Fit(nest:List Loop):Prop:=nest.length≤4∧ ∀(i:Nat) l,nest[i]? =some l→cK l.lo (i:Int)=true∧cK l.hi (i:Int)=true
theorem Y7{nest:List Loop}(h:kE nest=true):Fit nest:=by
 simp only [kE,Bool.and_eq_true,decide_eq_true_eq] at h
 refine⟨h.2,fun i l hl=> ?_⟩
 have:=I4 h.1 hl
 simpa [Bool.and_eq_true] using this
theorem uB{nest:List Loop}{k:Nat}{l:Loop}{ls:List Loop}(h:nest.drop k=l::ls):nest[k]? =some l∧nest.drop (k+1)=ls∧k<nest.length:=by
 have h1:(nest.drop k)[0]? =some l:=by rw [h];rfl
 rw [List.getElem?_drop,Nat.add_zero] at h1
 refine⟨h1,?_,(List.getElem?_eq_some_iff.1 h1).1⟩
 have:(nest.drop k).drop 1=ls:=by rw [h];rfl
 rwa [List.drop_drop] at this
theorem xA{nest:List Loop}{k:Nat}(h:nest.drop k=[])(hk:k≤nest.length):k=nest.length:=by
 have:(nest.drop k).length=0:=by rw [h];rfl
 rw [List.length_drop] at this;omega
theorem d5(p:List Int)(h:p.length≤1000):app [] p=some p:=by rw [bX (by simp;omega)];rfl
theorem aAK(l:List Int)(f:Int→Int)(v:Int):((l++[v]).map f).sum=(l.map f).sum+f v:=by simp
theorem aHr{lo v:Int}(h:lo≤v):((lC lo v).length:Int)=v-lo:=by unfold lC;simp;omega
theorem Q6{nest:List Loop}(hf:Fit nest): ∀(ls:List Loop) (n k:Nat) (p:List Int) (most:Int),5000+ls.length≤n→nest.drop k=ls→k≤nest.length→oB k p→0≤most→most≤1200→
  Ev (s_l2Work n nest p most) (fun r=>(wk ls p≤most→r=wk ls p)∧(most<wk ls p→most<r)∧1≤r∧r≤most+1)
 | [],n,k,p,most,hn,hd,hk,hp,h0,h1=>by
  obtain⟨n,rfl⟩: ∃j,n=j+1:=⟨n-1,by omega⟩
  have hk':=xA hd hk
  have hpl:=hp.1
  unfold s_l2Work
  rw [decide_eq_true (show(p.length:Int)=(nest.length:Int) by omega)]
  exact Ev.some ⟨fun _=>rfl,fun h=>by simp only [wk] at h;omega,by omega,by omega⟩
 |l::ls,n,k,p,most,hn,hd,hk,hp,h0,h1=>by
  obtain⟨n,rfl⟩: ∃j,n=j+1:=⟨n-1,by omega⟩
  obtain⟨d1,d2,d3⟩:=uB hd
  obtain⟨s1,s2⟩:=hf.2 k l d1
  have hpl:=hp.1
  have hk3:k≤3:=by have:=hf.1;omega
  simp only [List.length_cons] at hn
  unfold s_l2Work
  rw [decide_eq_false (show¬(p.length:Int)=(nest.length:Int) by omega)]
  refine bW (aA (x:=l) (by rw [hpl];exact aO d1) (aA (E1 (by omega) s1 s2 hp) ?_))
  let f:Int→Int:=fun v=>wk ls (p++[v])
  have hfp: ∀v,1≤f v:=fun v=>V4 _ _
  have hW:wk (l::ls) p=1+((lC (lF l p) (qJ l p)).map f).sum:=rfl
  refine Ev.loop (fun x:Int×Int=>lF l p≤x.2∧(x.2≤qJ l p∨x.2=lF l p)∧(1+((lC (lF l p) x.2).map f).sum≤most→x.1=1+((lC (lF l p) x.2).map f).sum)∧(most<1+((lC (lF l p) x.2).map f).sum→most<x.1)∧1≤x.1∧x.1≤most+1)
   (fun x=>(most+1-x.1).toNat) ?_ n _ ⟨Int.le_refl _,.inr rfl,fun _=>by rw [iD (Int.le_refl _)];rfl,fun h=>by rw [iD (Int.le_refl _)] at h;simp at h;dsimp only;omega,by dsimp only;omega,by dsimp only;omega⟩ (by dsimp only;omega)
  rintro again ⟨x,v⟩ ⟨i1,i2,i3,i4,i5,i6⟩ hr
  dsimp only at i1 i2 i3 i4 i5 i6⊢
  refine Ev.jn (fun z=>z=decide (v<qJ l p∧x≤most)) (fun j hj=>aG (fun h=>hj _ ?_) (fun h=>hj _ ?_)) (fun z hz=> ?_)
  ·by_cases hx:x≤most
   ·rw [decide_eq_true hx,decide_eq_true ⟨h,hx⟩]
   ·rw [decide_eq_false hx,decide_eq_false (fun h=>hx h.2)]
  ·rw [decide_eq_false (fun h'=>h h'.1)]
  subst hz
  refine aG (fun⟨hv,hx⟩=> ?_) (fun hno=>Ev.some ?_)
  ·have hsum:x=1+((lC (lF l p) v).map f).sum:=i3 (by apply Int.not_lt.1;intro h;have:=i4 h;omega)
   have hp':=A9 s1 s2 hp hk3 ⟨i1,hv⟩
   have e1:wr (most-x)=most-x:=by rw [aM (by omega)]
   rw [e1]
   refine aA (d5 p (by omega)) (aA (bX (by simp;omega)) (aH (Q6 hf ls n (k+1) (p++[v]) (most-x) (by omega) d2 (by omega) hp' (by omega) (by omega)) (fun r ⟨r1,r2,r3,r4⟩=> ?_)))
   have hvb:v<qJ l p:=hv
   have hvr: -1000000000≤v∧v≤1000000000:=by
    have h9:=hp'.2.2 v (by simp)
    have h8:=G0 hp'.2.1
    simp only [B4] at h9;omega
   rw [aM (n:=v+1) (by omega),aM (n:=x+r) (by omega)]
   have hs:1+((lC (lF l p) (v+1)).map f).sum=x+f v:=by rw [nP i1,aAK,hsum];omega
   refine hr _ ⟨by dsimp only;omega,.inl (by dsimp only;omega),?_,?_,by dsimp only;omega,by dsimp only;omega⟩ (by dsimp only;omega)
   ·dsimp only;rw [hs];intro h
    have:r=f v:=r1 (show f v≤most-x by omega)
    omega
   ·dsimp only;rw [hs];intro h
    have:most-x<r:=r2 (show most-x<f v by omega)
    omega
  ·have hmono:1+((lC (lF l p) v).map f).sum≤wk (l::ls) p∧(qJ l p≤v→1+((lC (lF l p) v).map f).sum=wk (l::ls) p):=by
    rw [hW]
    by_cases h:v<qJ l p
    ·refine⟨?_,fun h'=>by omega⟩
     rw [tW i1 h,List.map_append,List.sum_append,List.map_cons,List.sum_cons]
     have:=nD f (lC (v+1) (qJ l p)) (fun y _=>hfp y)
     have:=hfp v
     omega
    ·have:lC (lF l p) v=lC (lF l p) (qJ l p):=by
      rcases i2 with h2|h2
      ·rw [show v=qJ l p by omega]
      ·subst h2;rw [iD (Int.le_refl _),iD (by omega)]
     rw [this];exact⟨Int.le_refl _,fun _=>rfl⟩
   refine⟨fun h=> ?_,fun h=> ?_,i5,i6⟩
   ·have hx:=i3 (by omega)
    rw [hx]
    apply hmono.2
    apply Int.not_lt.1
    intro hv;exact hno ⟨hv,by omega⟩
   ·apply Int.not_le.1
    intro hx
    have hv:qJ l p≤v:=by apply Int.not_lt.1;intro hv;exact hno ⟨hv,hx⟩
    have:=i4 (by rw [hmono.2 hv];exact h)
    omega
theorem sH{nest:List Loop}(hf:Fit nest): ∀(ls:List Loop) (n k:Nat) (p:List Int) (out:List (List Int)),5000+ls.length≤n→nest.drop k=ls→k≤nest.length→oB k p→wk ls p≤1200→out.length≤120→
  Ev (s_l2Points n out nest p) (fun r=>(out.length+(pts ls p).length≤120→r=out++pts ls p)∧(120<out.length+(pts ls p).length→120<r.length))
 | [],n,k,p,out,hn,hd,hk,hp,h0,h1=>by
  obtain⟨n,rfl⟩: ∃j,n=j+1:=⟨n-1,by omega⟩
  have hk':=xA hd hk
  have hpl:=hp.1
  have hf1:=hf.1
  unfold s_l2Points
  rw [decide_eq_true (show(p.length:Int)=(nest.length:Int) by omega)]
  refine bQ (aA (d5 p (by omega)) (aA (bX (by simp;omega)) (Ev.some ⟨fun _=>rfl,fun h=>by simp [pts] at h ⊢; omega⟩)))
 |l::ls,n,k,p,out,hn,hd,hk,hp,h0,h1=>by
  obtain⟨n,rfl⟩: ∃j,n=j+1:=⟨n-1,by omega⟩
  obtain⟨d1,d2,d3⟩:=uB hd
  obtain⟨s1,s2⟩:=hf.2 k l d1
  have hpl:=hp.1
  have hf1:=hf.1
  have hk3:k≤3:=by omega
  simp only [List.length_cons] at hn
  unfold s_l2Points
  rw [decide_eq_false (show¬(p.length:Int)=(nest.length:Int) by omega)]
  refine bW (aA (x:=l) (by rw [hpl];exact aO d1) (aA (E1 (by omega) s1 s2 hp) ?_))
  let f:Int→Int:=fun v=>wk ls (p++[v])
  have hfp: ∀v,1≤f v:=fun v=>V4 _ _
  have hW:wk (l::ls) p=1+((lC (lF l p) (qJ l p)).map f).sum:=rfl
  let g:Int→List (List Int):=fun v=>pts ls (p++[v])
  have hP:pts (l::ls) p=(lC (lF l p) (qJ l p)).flatMap g:=rfl
  have hlen:lF l p≤qJ l p→qJ l p-lF l p≤1199:=fun hle=>by
   have:=nD f (lC (lF l p) (qJ l p)) (fun y _=>hfp y)
   have:=aHr hle
   omega
  refine Ev.loop (fun x:List (List Int)×Int=>lF l p≤x.2∧(x.2≤qJ l p∨x.2=lF l p)∧(out.length+((lC (lF l p) x.2).flatMap g).length≤120→x.1=out++(lC (lF l p) x.2).flatMap g)∧(120<out.length+((lC (lF l p) x.2).flatMap g).length→120<x.1.length))
   (fun x=>(qJ l p-x.2).toNat) ?_ n _ ⟨Int.le_refl _,.inr rfl,fun _=>by rw [iD (Int.le_refl _)];simp,fun h=>by rw [iD (Int.le_refl _)] at h;simp at h;omega⟩ (by dsimp only;omega)
  rintro again ⟨x,v⟩ ⟨i1,i2,i3,i4⟩ hr
  dsimp only at i1 i2 i3 i4⊢
  refine Ev.jn (fun z=>z=decide (v<qJ l p∧x.length≤120)) (fun j hj=>aG (fun h=>hj _ ?_) (fun h=>hj _ ?_)) (fun z hz=> ?_)
  ·by_cases hx:x.length≤120
   ·rw [decide_eq_true (show(x.length:Int)≤120 by omega),decide_eq_true ⟨h,hx⟩]
   ·rw [decide_eq_false (show¬(x.length:Int)≤120 by omega),decide_eq_false (fun h=>hx h.2)]
  ·rw [decide_eq_false (fun h'=>h h'.1)]
  subst hz
  refine aG (fun⟨hv,hx⟩=> ?_) (fun hno=>Ev.some ?_)
  ·have hxe:x=out++(lC (lF l p) v).flatMap g:=i3 (by apply Nat.not_lt.1;intro h;have:=i4 h;omega)
   have hp':=A9 s1 s2 hp hk3 ⟨i1,hv⟩
   have hwc:f v≤1200:=by
    rw [hW,tW i1 hv,List.map_append,List.sum_append,List.map_cons,List.sum_cons] at h0
    have:=nD f (lC (v+1) (qJ l p)) (fun y _=>hfp y)
    have:=nD f (lC (lF l p) v) (fun y _=>hfp y)
    omega
   refine aA (d5 p (by omega)) (aA (bX (by simp;omega)) (aH (sH hf ls n (k+1) (p++[v]) x (by omega) d2 (by omega) hp' hwc hx) (fun r ⟨r1,r2⟩=> ?_)))
   have hvr: -1000000000≤v∧v≤1000000000:=by
    have h9:=hp'.2.2 v (by simp)
    have h8:=G0 hp'.2.1
    simp only [B4] at h9;omega
   rw [aM (n:=v+1) (by omega)]
   have hs:(lC (lF l p) (v+1)).flatMap g=(lC (lF l p) v).flatMap g++g v:=by rw [nP i1,List.flatMap_append];simp
   refine hr _ ⟨by dsimp only;omega,.inl (by dsimp only;omega),?_,?_⟩ (by dsimp only;omega)
   ·dsimp only;rw [hs];intro h
    simp only [List.length_append] at h
    have hl:x.length=out.length+((lC (lF l p) v).flatMap g).length:=by rw [hxe,List.length_append]
    rw [r1 (show x.length+(g v).length≤120 by omega),hxe,List.append_assoc]
   ·dsimp only;rw [hs];intro h
    simp only [List.length_append] at h
    have hl:x.length=out.length+((lC (lF l p) v).flatMap g).length:=by rw [hxe,List.length_append]
    exact r2 (show 120<x.length+(g v).length by omega)
  ·have hmono:((lC (lF l p) v).flatMap g).length≤(pts (l::ls) p).length∧(qJ l p≤v→(lC (lF l p) v).flatMap g=pts (l::ls) p):=by
    rw [hP]
    by_cases h:v<qJ l p
    ·refine⟨?_,fun h'=>by omega⟩
     rw [tW i1 h,List.flatMap_append,List.length_append]
     omega
    ·have:lC (lF l p) v=lC (lF l p) (qJ l p):=by
      rcases i2 with h2|h2
      ·rw [show v=qJ l p by omega]
      ·subst h2;rw [iD (Int.le_refl _),iD (by omega)]
     rw [this];exact⟨Nat.le_refl _,fun _=>rfl⟩
   refine⟨fun h=> ?_,fun h=> ?_⟩
   ·have hx:=i3 (by omega)
    rw [hx,hmono.2]
    apply Int.not_lt.1
    intro hv;exact hno ⟨hv,by rw [hx,List.length_append];omega⟩
   ·apply Nat.not_le.1
    intro hx
    have hv:qJ l p≤v:=by apply Int.not_lt.1;intro hv;exact hno ⟨hv,hx⟩
    have:=i4 (by rw [hmono.2 hv];exact h)
    omega
theorem S7{nest:List Loop}(hf:Fit nest): ∀(ls:List Loop) (n k:Nat) (p:List Int) (st:Int) (out:List (List Int)),5000+ls.length≤n→nest.drop k=ls→k≤nest.length→oB k p→0≤st→st≤1199→out.length≤120→
  Ev (i_walking_walk n ⟨nest,st,out⟩ p) (fun r=>(st+wk ls p≤1200∧out.length+(pts ls p).length≤120→r=(true,⟨nest,st+wk ls p-1,out++pts ls p⟩))∧(¬(st+wk ls p≤1200∧out.length+(pts ls p).length≤120)→r.1=false))
 | [],n,k,p,st,out,hn,hd,hk,hp,h0,h1,h2=>by
  obtain⟨n,rfl⟩: ∃j,n=j+1:=⟨n-1,by omega⟩
  have hk':=xA hd hk
  have hpl:=hp.1
  have hf1:=hf.1
  unfold i_walking_walk
  dsimp only
  rw [decide_eq_true (show(p.length:Int)=(nest.length:Int) by omega)]
  have hc:m_ownClone p=some p:=by unfold m_ownClone;rw [if_pos (by omega)]
  refine bQ (aA hc (aA (bX (by simp;omega)) (Ev.some ⟨fun h=> ?_,fun h=> ?_⟩)))
  ·simp only [wk,pts,List.length_singleton] at h⊢
   rw [decide_eq_true (by simp;omega),show st+1-1=st by omega]
  ·simp only [wk,pts,List.length_singleton] at h⊢
   exact decide_eq_false (by simp;omega)
 |l::ls,n,k,p,st,out,hn,hd,hk,hp,h0,h1,h2=>by
  obtain⟨n,rfl⟩: ∃j,n=j+1:=⟨n-1,by omega⟩
  obtain⟨d1,d2,d3⟩:=uB hd
  obtain⟨s1,s2⟩:=hf.2 k l d1
  have hpl:=hp.1
  have hf1:=hf.1
  have hk3:k≤3:=by omega
  simp only [List.length_cons] at hn
  unfold i_walking_walk
  dsimp only
  rw [decide_eq_false (show¬(p.length:Int)=(nest.length:Int) by omega)]
  refine bW (aA (x:=l) (by rw [hpl];exact aO d1) (aA (aEk (by omega) s1 s2 hp) ?_))
  let f:Int→Int:=fun v=>wk ls (p++[v])
  have hfp: ∀v,1≤f v:=fun v=>V4 _ _
  have hW:wk (l::ls) p=1+((lC (lF l p) (qJ l p)).map f).sum:=rfl
  let g:Int→List (List Int):=fun v=>pts ls (p++[v])
  have hP:pts (l::ls) p=(lC (lF l p) (qJ l p)).flatMap g:=rfl
  refine Ev.loop (fun x:List Loop×Int×List (List Int)×Int=>x.1=nest∧lF l p≤x.2.2.2∧(x.2.2.2≤qJ l p∨x.2.2.2=lF l p)∧x.2.1=st+((lC (lF l p) x.2.2.2).map f).sum∧x.2.2.1=out++(lC (lF l p) x.2.2.2).flatMap g∧0≤x.2.1∧x.2.1≤1199∧x.2.2.1.length≤120)
   (fun x=>(1200-x.2.1).toNat) ?_ n _ ⟨rfl,Int.le_refl _,.inr rfl,by dsimp only;rw [iD (Int.le_refl _)];simp,by dsimp only;rw [iD (Int.le_refl _)];simp,h0,h1,h2⟩ (by dsimp only;omega)
  rintro again ⟨nst,x,o,v⟩ ⟨i0,i1,i2,i3,i4,i5,i6,i7⟩ hr
  dsimp only at i0 i1 i2 i3 i4 i5 i6 i7⊢
  subst i0
  have hol:o.length=out.length+((lC (lF l p) v).flatMap g).length:=by rw [i4,List.length_append]
  refine aG (fun hv=> ?_) (fun hv=>Ev.some ?_)
  ·have hp':=A9 s1 s2 hp hk3 ⟨i1,hv⟩
   have hrest:wk (l::ls) p≥1+((lC (lF l p) v).map f).sum+f v∧(pts (l::ls) p).length≥((lC (lF l p) v).flatMap g).length+(g v).length:=by
    rw [hW,hP,tW i1 hv,List.map_append,List.sum_append,List.map_cons,List.sum_cons,List.flatMap_append,List.length_append,List.flatMap_cons,List.length_append]
    have:=nD f (lC (v+1) (qJ l p)) (fun y _=>hfp y)
    constructor
    ·omega
    ·omega
   have hvr: -1000000000≤v∧v≤1000000000:=by
    have h9:=hp'.2.2 v (by simp)
    have h8:=G0 hp'.2.1
    simp only [B4] at h9;omega
   have e1:wr (x+1)=x+1:=by rw [aM (by omega)]
   have e2:wr (x+1+1)=x+1+1:=by rw [aM (by omega)]
   have e3:wr (v+1)=v+1:=by rw [aM (by omega)]
   rw [e1,e2,e3]
   refine Ev.jn (fun z:List Loop×Int×List (List Int)×Bool=>(z.2.2.2=false→z.1=nst∧x+f v≤1199∧o.length+(g v).length≤120∧z.2.1=x+f v∧z.2.2.1=o++g v)∧(z.2.2.2=true→ ¬(st+wk (l::ls) p≤1200∧out.length+(pts (l::ls) p).length≤120)))
    (fun j hj=>aG (fun h=>hj _ ⟨fun h'=>(by cases h'),fun _=> ?_⟩) (fun h=> ?_)) (fun z hz=> ?_)
   ·have:=hfp v
    omega
   ·have hc:m_ownClone p=some p:=by unfold m_ownClone;rw [if_pos (by omega)]
    refine aA hc (aA (bX (by simp;omega)) (aH (S7 hf ls n (k+1) (p++[v]) (x+1) o (by omega) d2 (by omega) hp' (by omega) (by omega) i7) (fun r ⟨r1,r2⟩=> ?_)))
    by_cases hc:x+1+f v≤1200∧o.length+(g v).length≤120
    ·rw [r1 hc]
     exact hj _ ⟨fun _=>⟨rfl,by omega,hc.2,show x+1+f v-1=x+f v by omega,rfl⟩,fun h=>(by cases h)⟩
    ·have hr1:=r2 hc
     obtain⟨rb,⟨rn,rs,ro⟩⟩:=r
     dsimp only at hr1⊢
     subst hr1
     exact hj _ ⟨fun h=>(by cases h),fun _=>by omega⟩
   ·obtain⟨za,zb,zc,zd⟩:=z
    obtain⟨z2,z3⟩:=hz
    dsimp only at z2 z3⊢
    cases zd with
    |true=>exact Ev.some ⟨fun h=>absurd h (z3 rfl),fun _=>rfl⟩
    |false=>
     obtain⟨rfl,y1,y2,y3,y4⟩:=z2 rfl
     refine hr _ ⟨rfl,by dsimp only;omega,.inl (by dsimp only;omega),?_,?_,by dsimp only;have:=hfp v;omega,by dsimp only;omega,?_⟩ (by dsimp only;have:=hfp v;omega)
     ·dsimp only;rw [nP i1,aAK,y3,i3];omega
     ·dsimp only;rw [y4,i4,nP i1,List.flatMap_append];simp
     ·dsimp only;rw [y4,List.length_append];exact y2
  ·have:lC (lF l p) v=lC (lF l p) (qJ l p):=by
    rcases i2 with h2|h2
    ·rw [show v=qJ l p by omega]
    ·subst h2;rw [iD (Int.le_refl _),iD (by omega)]
   rw [this] at i3 i4 hol
   rw [←hP] at i4 hol
   refine⟨fun h=> ?_,fun h=> ?_⟩
   ·rw [i4,i3,hW,show st+(1+((lC (lF l p) (qJ l p)).map f).sum)-1=st+((lC (lF l p) (qJ l p)).map f).sum by omega]
   ·exact absurd ⟨by omega,by omega⟩ h
def NP(nest:List Loop):Option (List (List Int)):=if kE nest=true∧wk nest []≤1200∧(pts nest []).length≤120 then some (pts nest []) else none
def aCO:Option (List (List Int))→List (List Int)×Bool
 |none=>([],false)
 |some l=>(l,true)
theorem pt0:oB 0 []:=⟨rfl,by omega,fun x h=>by cases h⟩
theorem zY{n:Nat}(hn:6000≤n){nest:List Loop}(h:SmN nest):kJ n nest=some (aCO (NP nest)):=by
 refine Ev.eq ?_
 unfold kJ
 refine aA (J0 (by omega) h) ?_
 unfold NP
 cases hv:kE nest with
 |false=>exact Ev.some (by simp [aCO])
 |true=>
  have hf:=Y7 hv
  refine aH (S7 hf nest n 0 [] 0 [] (by have:=hf.1;omega) rfl (by omega) pt0 (by omega) (by omega) (by simp)) (fun r ⟨r1,r2⟩=> ?_)
  by_cases hc:(0:Int)+wk nest []≤1200∧([]:List (List Int)).length+(pts nest []).length≤120
  ·rw [r1 hc,if_pos ⟨rfl,by omega,by simpa using hc.2⟩]
   exact Ev.some (by simp [aCO])
  ·rw [r2 hc,if_neg (fun h=>hc ⟨by omega,by simpa using h.2.2⟩)]
   exact Ev.some rfl
theorem zV{n:Nat}(hn:6000≤n){nest:List Loop}(h:SmN nest):kA n nest=some (aCO (NP nest)):=by
 refine Ev.eq ?_
 unfold kA
 refine Ev.jn (fun z=>z= !(kE nest&&decide (wk nest []≤1200))) (fun j hj=>aA (E6 (by omega) h) ?_) (fun z hz=> ?_)
 ·cases hv:kE nest with
  |false=>exact hj _ (by rw [hv];rfl)
  |true=>
   have hf:=Y7 hv
   refine aH (Q6 hf nest n 0 [] 1200 (by have:=hf.1;omega) rfl (by omega) pt0 (by omega) (by omega)) (fun r ⟨r1,r2,r3,r4⟩=>hj _ ?_)
   rw [hv,Bool.true_and]
   by_cases hw:wk nest []≤1200
   ·rw [decide_eq_true hw,decide_eq_false (by rw [r1 hw];omega)];rfl
   ·rw [decide_eq_false hw,decide_eq_true (r2 (by omega))];rfl
 ·subst hz
  unfold NP
  cases hv:kE nest with
  |false=>exact Ev.some (by simp [aCO])
  |true=>
   have hf:=Y7 hv
   by_cases hw:wk nest []≤1200
   ·rw [decide_eq_true hw]
    refine aH (sH hf nest n 0 [] [] (by have:=hf.1;omega) rfl (by omega) pt0 hw (by simp)) (fun r ⟨r1,r2⟩=> ?_)
    by_cases hl:(pts nest []).length≤120
    ·rw [r1 (by simpa using hl),if_pos ⟨rfl,hw,hl⟩]
     refine aG (fun h=>absurd h (by simp;omega)) (fun _=>Ev.some (by simp [aCO]))
    ·have:=r2 (by simp;omega)
     rw [if_neg (fun h=>hl h.2.2)]
     exact aG (fun _=>Ev.some rfl) (fun h=>absurd h (by omega))
   ·rw [decide_eq_false hw,if_neg (fun h=>hw h.2.1)]
    exact Ev.some rfl
def nQ(s:List UInt8):Bool:=match s with
 | [b]=>decide (65≤b.toNat∧b.toNat≤68)
 |_=>false
theorem u5{s:List UInt8}(h:s.length≠1):nQ s=false:=by
 match s,h with
 | [],_=>rfl
 | [b],h=>exact absurd rfl h
 |_::_::_,_=>rfl
theorem aIU{s:List UInt8}(h:s.length=1): ∃b,s=[b]:=by
 match s,h with
 | [b],_=>exact⟨b,rfl⟩
theorem aE0(b:UInt8)(k:Nat)(hk:k<256):(b=UInt8.ofNat k)↔b.toNat=k:=by
 constructor
 ·intro h;rw [h];simp;omega
 ·intro h;rw [←h];simp
theorem O6(b:UInt8):Lib.contains [65,66,67,68] [b]=decide (65≤b.toNat∧b.toNat≤68):=by
 have e1:(b=65)↔b.toNat=65:=aE0 b 65 (by omega)
 have e2:(b=66)↔b.toNat=66:=aE0 b 66 (by omega)
 have e3:(b=67)↔b.toNat=67:=aE0 b 67 (by omega)
 have e4:(b=68)↔b.toNat=68:=aE0 b 68 (by omega)
 by_cases h1:b=65
 ·subst h1;decide
 by_cases h2:b=66
 ·subst h2;decide
 by_cases h3:b=67
 ·subst h3;decide
 by_cases h4:b=68
 ·subst h4;decide
 rw [e1] at h1;rw [e2] at h2;rw [e3] at h3;rw [e4] at h4
 rw [decide_eq_false (by omega)]
 rw [←e1] at h1;rw [←e2] at h2;rw [←e3] at h3;rw [←e4] at h4
 simp [Lib.contains,Lib.index,h1,h2,h3,h4]
theorem w5(n:Nat)(s:List UInt8):m9 n s=some (nQ s):=by
 unfold m9
 by_cases h:s.length=1
 ·obtain⟨b,rfl⟩:=aIU h
  simp only [jn,m_contains]
  rw [if_pos (by simp),O6]
  rfl
 ·rw [decide_eq_false (show¬(s.length:Int)=1 by omega),u5 h];rfl
theorem H7(b:UInt8):Op.bytesLess [b] [65]=decide (b.toNat<65):=by
 simp [Op.bytesLess,UInt8.lt_iff_toNat_lt]
theorem H6(b:UInt8):(Op.bytesLess [b] [68]||[b]==[68])=decide (b.toNat≤68):=by
 have e:(b=68)↔b.toNat=68:=aE0 b 68 (by omega)
 by_cases h:b=68
 ·subst h;decide
 ·have h':b.toNat≠68:=fun e'=>h (e.2 e')
  have:([b]==[(68:UInt8)])=false:=by simp [h]
  rw [this,Bool.or_false]
  simp only [Op.bytesLess,Bool.and_false,Bool.or_false,UInt8.lt_iff_toNat_lt]
  apply decide_eq_decide.2
  show b.toNat<68↔_
  omega
def iA(a:Access)(d:Int):Bool:=a.subs.all (fun x=>bU x d)&&(nQ a.array&&decide (1≤a.subs.length∧a.subs.length≤2))
theorem aEo{n:Nat}(hn:5000≤n){a:Affine}(ha:SmA a)(d:Int):iL n a d=some (!bU a d):=I8 hn ha d
theorem uL{n:Nat}(hn:5000≤n){a:Access}(ha:A2 a.subs)(d:Int):lI n a d=some (iA a d):=by
 obtain⟨h0,h1⟩:=ha
 unfold lI
 rw [w5,qW]
 have hc:=rO (n:=n) (f:=fun q0=>iL n q0 d) (p:=fun a=> !bU a d) (l:=a.subs) (fun x hx=>aEo hn (h1 x hx) d) (by omega) (by omega)
 simp only [jn,Option.bind]
 rw [hc]
 unfold iA
 have e:(a.subs.any fun a=> !bU a d)= !(a.subs.all fun a=>bU a d):=by
  rw [List.all_eq_not_any_not];simp
 rw [e]
 cases nQ a.array<;>cases decide (1≤a.subs.length∧a.subs.length≤2)<;>simp
theorem uI{n:Nat}(hn:5000≤n){a:Access}(ha:A2 a.subs)(d:Int):kX n a d=some (iA a d):=by
 obtain⟨h0,h1⟩:=ha
 refine Ev.eq ?_
 unfold kX
 refine mW (l:=a.subs) (p:=fun _ a=>bU a d) (by omega) (by omega) (fun again i x hx hgo hno=> ?_) (fun again hall=> ?_) (fun⟨i,x,hx,hp⟩=> ?_)
 ·have hi:=(List.getElem?_eq_some_iff.1 hx).1
  have hm:=h1 x (List.mem_of_getElem? hx)
  rw [decide_eq_true (show(i:Int)<(a.subs.length:Int) by omega)]
  refine bQ (Ev.jn (fun z=>z= !bU x d) (fun j hj=>aA (aO hx) (aA (lA hn x hm) ?_)) (fun z hz=> ?_))
  ·cases ha:dB x with
   |false=>exact hj _ (by unfold bU;rw [ha];rfl)
   |true=>exact aA (uW hn hm) (hj _ (by unfold bU;rw [ha,ltd];simp))
  ·subst hz
   cases hb:bU x d with
   |true=>show Ev (again _) _;rw [aM (by omega)];exact hgo hb
   |false=>exact Ev.some (hno hb)
 ·rw [decide_eq_false (show¬(a.subs.length:Int)<(a.subs.length:Int) by omega)]
  have e:a.subs.all (fun a=>bU a d)=true:=List.all_eq_true.2 (fun c hc=>by obtain⟨i,hi⟩:=List.getElem?_of_mem hc;exact hall i c hi)
  unfold iA
  rw [e,Bool.true_and]
  refine bW (Ev.jn (fun z=>z=(nQ a.array&&decide (1≤a.subs.length∧a.subs.length≤2))) (fun j hj=> ?_) (fun z hz=>Ev.some hz))
  by_cases h:a.array.length=1
  ·rw [decide_eq_true (show(a.array.length:Int)=1 by omega)]
   obtain⟨b,hb⟩:=aIU h
   rw [hb] at hj⊢
   rw [H7,H6]
   show Ev (bif _ then _ else _) _
   simp only [nQ] at hj⊢
   by_cases g1:b.toNat<65
   ·rw [decide_eq_true g1]
    exact hj _ (by rw [decide_eq_false (show¬(65≤b.toNat∧b.toNat≤68) by omega)];rfl)
   ·rw [decide_eq_false g1]
    by_cases g2:b.toNat≤68
    ·rw [decide_eq_true g2]
     rw [decide_eq_true (show 65≤b.toNat∧b.toNat≤68 by omega)] at hj⊢
     refine aG (fun h=>hj _ ?_) (fun h=>hj _ ?_)
     ·by_cases h2:a.subs.length≤2
      ·rw [decide_eq_true (show(a.subs.length:Int)≤2 by omega),decide_eq_true (by omega)];rfl
      ·rw [decide_eq_false (show¬(a.subs.length:Int)≤2 by omega),decide_eq_false (by omega)];rfl
     ·rw [decide_eq_false (by omega)];rfl
    ·rw [decide_eq_false g2]
     exact hj _ (by rw [decide_eq_false (show¬(65≤b.toNat∧b.toNat≤68) by omega)];rfl)
  ·rw [decide_eq_false (show¬(a.array.length:Int)=1 by omega)]
   exact hj _ (by rw [u5 h];rfl)
 ·unfold iA
  rw [List.all_eq_false.2 ⟨x,List.mem_of_getElem? hx,by rw [hp];simp⟩];rfl
def iU(a:Affine):Bool:=decide (a.coefs.length=0)&&decide (a.const=0)
def mJ(a:Access):Bool:=decide (a.array=[])&&decide (a.subs.length=0)
theorem aHG(k:Nat):decide ((k:Int)=0)=decide (k=0):=decide_eq_decide.2 (by omega)
theorem O2(n:Nat)(a:Affine):lG n a=some (iU a):=by
 unfold lG iU;rw [aHG];cases decide (a.coefs.length=0)<;>rfl
theorem aAL(n:Nat)(a:Affine):nJ n a=some (iU a):=by
 unfold nJ iU;rw [aHG];cases decide (a.coefs.length=0)<;>rfl
theorem O3(n:Nat)(a:Access):gW n a=some (mJ a):=by
 unfold gW mJ;rw [aHG];cases decide (a.array=[])<;>rfl
theorem W1(n:Nat)(a:Access):kW n a=some (mJ a):=by
 unfold kW mJ;rw [aHG];cases decide (a.array=[])<;>rfl
def fR(e:Expr)(d:Int):Bool:=
 if e.kind=2 then decide (e.num=0)&&(mJ e.read&&bU e.index d)
 else if e.kind=3 then decide (e.num=0)&&(iU e.index&&iA e.read d)
 else if e.kind=1 then decide (0≤e.num∧e.num≤99)&&(iU e.index&&mJ e.read)
 else decide (e.num=0)&&(iU e.index&&mJ e.read)
def gK(k:Int):Int:=if k=1∨k=2∨k=3 then 0 else if k=4∨k=5∨k=6 then 2 else-1
theorem aAM(n:Nat)(k:Int):sP n k=some (gK k):=by
 unfold sP gK
 by_cases h1:k=1
 ·subst h1;rfl
 by_cases h2:k=2
 ·subst h2;rfl
 by_cases h3:k=3
 ·subst h3;rfl
 by_cases h4:k=4
 ·subst h4;rfl
 by_cases h5:k=5
 ·subst h5;rfl
 by_cases h6:k=6
 ·subst h6;rfl
 simp [jn,h1,h2,h3,h4,h5,h6]
theorem aB4{n:Nat}(hn:5000≤n){e:Expr}(h1:SmA e.index)(h2:A2 e.read.subs)(d:Int):wK n e d=some (fR e d):=by
 unfold wK fR
 rw [W1,aAL,lA hn _ h1,uW hn h1,uI hn h2]
 by_cases k2:e.kind=2
 ·rw [if_pos k2,decide_eq_true k2]
  simp only [jn,Option.bind,cond_true,bU]
  cases decide (e.num=0)<;>cases mJ e.read<;>cases dB e.index<;>simp
 ·rw [if_neg k2,decide_eq_false k2]
  by_cases k3:e.kind=3
  ·rw [if_pos k3,decide_eq_true k3]
   simp only [jn,Option.bind,cond_true,cond_false]
   cases decide (e.num=0)<;>cases iU e.index<;>simp
  ·rw [if_neg k3,decide_eq_false k3]
   by_cases k1:e.kind=1
   ·rw [if_pos k1,decide_eq_true k1]
    simp only [jn,Option.bind,cond_true,cond_false]
    by_cases g1:0≤e.num<;>by_cases g2:e.num≤99<;>cases iU e.index<;>simp [g1,g2]
   ·rw [if_neg k1,decide_eq_false k1]
    simp only [jn,Option.bind,cond_false]
    cases decide (e.num=0)<;>cases iU e.index<;>simp
end Go.Lift
