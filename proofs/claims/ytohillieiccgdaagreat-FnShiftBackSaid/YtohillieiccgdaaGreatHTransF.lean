/- The way back, skews and the laws. -/
import Derived.Test.YtohillieiccgdaaGreatHTransE
import Derived.Test.YtohillieiccgdaaGreatHDrawD
set_option maxRecDepth 100000
set_option linter.unusedVariables false
namespace Go.Lift
open Go
theorem aDj{k:Nat}{g f:Affine→Affine}{P:Part}{l:Loop}(hk:k<P.nest.length):(gD k g f P l).nest[k]? =some (cK g l):=by
 unfold gD
 rw [List.getElem?_append_right (by simp;omega),List.length_take,Nat.min_eq_left (by omega),Nat.sub_self];rfl
theorem aBs{list:List Arr}{P:Part}(hP:cD list P=true){k:Nat}{l:Loop}(hl:P.nest[k]? =some l){g f g' f':Affine→Affine}(hg: ∀x,bI x=true→g' (g x)=x)(hf: ∀x,bI x=true→f' (f x)=x):
  gD k g' f' (gD k g f P l) (cK g l)=P:=by
 obtain⟨h1,h2⟩:=pW hP
 obtain⟨_,h4,h5,_⟩:=lR hP
 have hk:=(List.getElem?_eq_some_iff.1 hl).1
 have ht:(P.nest.take k).length=k:=by rw [List.length_take];omega
 have e1:((gD k g f P l).nest).take k=P.nest.take k:=by
  unfold gD
  rw [List.take_append_of_le_length (by omega),List.take_of_length_le (by omega)]
 have e2:((gD k g f P l).nest).drop (k+1)=(P.nest.drop (k+1)).map (cK f):=by
  unfold gD
  rw [List.drop_append,ht,List.drop_of_length_le (by omega),show k+1-k=1 by omega];rfl
 have e3:((gD k g f P l).body)=P.body.map (l6 f):=rfl
 show(⟨((gD k g f P l).nest).take k++cK g' (cK g l)::(((gD k g f P l).nest).drop (k+1)).map (cK f'),((gD k g f P l).body).map (l6 f')⟩:Part)=P
 rw [e1,e2,e3,N2,Z2 hg (h2 l (List.mem_of_getElem? hl)),List.map_map,List.map_map]
 rw [t8 (l:=P.nest.drop (k+1)) (f:=cK f' ∘ cK f) (fun y hy=>by
  show cK f' (cK f y)=y
  rw [N2];exact Z2 hf (h2 y (List.mem_of_mem_drop hy)))]
 rw [t8 (l:=P.body) (f:=l6 f' ∘ l6 f) (fun s hs=>by
  show l6 f' (l6 f s)=s
  rw [aEK];exact aCG hf (h5 s hs))]
 rw [←jX hl,List.take_append_drop]
theorem aEs{α:Type}{l:List α}{i:Nat}{x:α}(h:l[i]? =some x):l.set i x=l:=by
 refine List.ext_getElem? (fun j=> ?_)
 by_cases hj:i=j
 ·subst hj
  rw [List.getElem?_set_self (List.getElem?_eq_some_iff.1 h).1,h]
 ·rw [List.getElem?_set_ne hj]
theorem aBr{p q:Prog}{i k:Nat}{P:Part}{l:Loop}(hv:jP p=true)(hP:p.parts[i]? =some P)(hl:P.nest[k]? =some l){g f g' f':Affine→Affine}(hg: ∀x,bI x=true→g' (g x)=x)(hf: ∀x,bI x=true→f' (f x)=x)
  (h:w8 p (i:Int) (k:Int) g f=(q,true)):jP q=true∧(∀j:Nat,j<P.nest.length→iC q (i:Int) (j:Int)=true)∧w8 q (i:Int) (k:Int) g' f'=(p,true):=by
 rw [o7 hP hl] at h
 unfold K1 at h
 have hok:=(aBb hv).2.2.2.1 P (List.mem_of_getElem? hP)
 have hi:=(List.getElem?_eq_some_iff.1 hP).1
 have hk:=(List.getElem?_eq_some_iff.1 hl).1
 by_cases hq:jP ⟨p.arrays,p.parts.set i (gD k g f P l)⟩=true
 ·rw [if_pos hq] at h
  cases h
  have hP':(p.parts.set i (gD k g f P l))[i]? =some (gD k g f P l):=by rw [List.getElem?_set_self hi]
  refine⟨hq,fun j hj=> ?_,?_⟩
  ·unfold iC
   rw [hq,aU hP']
   refine decide_eq_true ⟨by omega,?_⟩
   have:(gD k g f P l).nest.length=P.nest.length:=by simp [gD];omega
   rw [this];omega
  ·rw [o7 (l:=cK g l) hP' (aDj hk)]
   dsimp only
   rw [List.set_set,aBs hok hl hg hf,aEs hP]
   unfold K1
   rw [if_pos hv]
 ·rw [if_neg hq] at h
  cases h
theorem aFH{F:Prog→Int→Option (Prog×Bool)}{G:Option (Prog×Bool)}{p:Prog}{R:Prog×Bool}{by_:Int}(hp:BG 1000 p)(hR:BG 1000 R.1)(h1:F p by_=some R)(h2:G=some R)(hb:R.2=true→F R.1 (wr (0-by_))=some (p,true)):
  Ev (Option.bind (F p by_) fun x2=>
  Option.bind G fun x3=>
  jn (fun(x6:Bool)=>
   bif x6 then(
    jn (fun(x9:Bool)=>
     some x9
    ) (fun j7=>
     bif(x2.2==x3.2) then(
      Option.bind (cS N x2.1 x3.1) fun x8=>
      j7 x8
     ) else(
      j7 false
     )
    )
   ) else(
    Option.bind (F x2.1 (wr (0-by_))) fun x10=>
    jn (fun(x13:Bool)=>
     some x13
    ) (fun j11=>
     bif x10.2 then(
      Option.bind (cS N x10.1 p) fun x12=>
      j11 x12
     ) else(
      j11 false
     )
    )
   )
  ) (fun j4=>
   bif !(x2.2==x3.2) then(
    j4 true
   ) else(
    Option.bind (cS N x2.1 x3.1) fun x5=>
    bif !x5 then(
     j4 true
    ) else(
     j4 (!x2.2)
    )
   )
  )) (fun r=>r=true):=by
 have hN:N=100000:=rfl
 have hs:=Y7 (n:=N) (by omega) hR
 have he:(R.2==R.2)=true:=by cases R.2<;>rfl
 refine aB h1 (aB h2 (Ev.jn (fun z=>z= !R.2) (fun j hj=> ?_) (fun z hz=> ?_)))
 ·rw [he]
  exact bZ (aB hs (bZ (hj _ rfl)))
 ·subst hz
  cases hr:R.2 with
  |false=>exact bW (Ev.jn (fun z=>z=true) (fun j hj=>bW (aB hs (hj _ rfl))) (fun z hz=>Ev.some hz))
  |true=>exact bZ (aB (hb hr) (Ev.jn (fun z=>z=true) (fun j hj=>bW (aB (Y7 (n:=N) (by omega) hp) (hj _ rfl))) (fun z hz=>Ev.some hz)))
theorem aGI{q:Prog}(h:BG 1000 q):BG 1000 (K1 q).1:=by
 unfold K1
 split
 ·exact h
 ·exact⟨⟨by simp,fun x hx=>by cases hx⟩,by simp,fun x hx=>by cases hx⟩
theorem aHH:BG 1000 noP.1:=⟨⟨by simp [noP],fun x hx=>by cases hx⟩,by simp [noP],fun x hx=>by cases hx⟩
theorem aDi{p:Prog}(hp:BG 1000 p){part loop:Int}(hc:iC p part loop=true){g f:Affine→Affine}(hg: ∀x,bI x=true→BA 4 (g x))(hf: ∀x,bI x=true→BA 4 (f x)):BG 1000 (w8 p part loop g f).1:=by
 obtain⟨hv,i,k,P,l,rfl,rfl,hP,hl,hi,hkl,hok,hk⟩:=E5 hc
 rw [o7 hP hl]
 exact aGI (aFE hp i (S2 hok hl hg hf))
theorem aGT(code:List UInt8):Ev (Option.bind (mT N code) fun x1=>Option.bind (rG N x1) fun x2=>some (x2.1,x2.2.1,x2.2.2.1,x2.2.2.2.1)) (fun x=>BG 1000 x.1):=by
 have hN:N=100000:=rfl
 refine aL (aGr code) (fun x1 r1=>aL (P:=fun x=>BG 1000 x.1) ?_ (fun x2 h2=>Ev.some h2))
 unfold rG
 refine aL (aDl r1 (by omega)) (fun x1 ⟨h1,r1⟩=>aL (aGv (by omega) r1 (by omega) h1) (fun x2 ⟨h2,r2⟩=>aL (iF N r2 (by omega) (by simp)) (fun x3 ⟨_,r3⟩=>aL (iF N r3 (by omega) (by simp)) (fun x4 ⟨_,r4⟩=>aL (iF N r4 (by omega) (by simp)) (fun x5 ⟨_,r5⟩=>Ev.some (h2.mono (show 30≤1000 by omega)))))))
theorem aA3{p q:Prog}{part loop by_:Int}(h:oB p part loop by_=(q,true)):oB q part loop (wr (0-by_))=(p,true):=by
 unfold oB at h
 by_cases hc:iC p part loop=true∧(-6≤by_∧by_≤6)
 ·rw [if_pos hc] at h
  obtain⟨hv,i,k,P,l,rfl,rfl,hP,hl,hi,hkl,hok,hk⟩:=E5 hc.1
  obtain⟨h1,h2,h3⟩:=aBr (g':=fun x=>kG x 1 (sA (-by_))) (f':=fB k (sA (-by_))) hv hP hl (fun x hx=>aH9 (iS hx).1 rfl rfl) (fun x hx=>aIa (iS hx).1 rfl rfl hk (aHF _ hk)) h
  unfold oB
  rw [aP (by omega),show 0-by_= -by_ by omega,if_pos ⟨h2 k hkl,by omega⟩]
  exact h3
 ·rw [if_neg hc] at h
  cases h
theorem L4{p:Prog}(hp:BG 1000 p)(part loop by_:Int):BG 1000 (oB p part loop by_).1:=by
 unfold oB
 split
 ·rename_i hc
  exact aDi hp hc.1 (zI rfl) (aE3 rfl)
 ·exact aHH
theorem J4(code:List UInt8):lD N code=some true:=by
 have hN:N=100000:=rfl
 refine Ev.eq ?_
 unfold lD iP
 refine aI (fun _=>Ev.some rfl) (fun _=>aL (aGT code) (fun x1 hp=> ?_))
 obtain⟨p,part,loop,by_⟩:=x1
 dsimp only at hp⊢
 refine aFH (F:=fun p b=>gP N p part loop b) hp (L4 hp part loop by_) (E2 (by omega) hp part loop by_) (aA6 (by omega) hp part loop by_) (fun h=> ?_)
 rw [E2 (by omega) (L4 hp part loop by_)]
 exact congrArg some (aA3 (by rw [←h]))
end Go.Lift
