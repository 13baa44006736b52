/- Programs compose. -/
import Derived.Test.YtdcjmccimcppbaaGreatFDraw1
set_option maxRecDepth 100000
set_option linter.unusedVariables false
namespace Go.Lift
open Go
theorem E2{n:Nat}(hn:5000≤n){a:List Int}(h:a.length≤1000):oP n a a=some true:=by
 refine Ev.eq ?_
 unfold oP
 refine eA (fun h=>absurd rfl h) (fun _=> ?_)
 refine Ev.loop (fun x:Int=>0≤x∧x≤a.length) (fun x=>(a.length-x).toNat) ?_ n 0 ⟨by omega,by omega⟩ (by omega)
 rintro again x ⟨h0,h1⟩ hr
 refine aH (fun hlt=> ?_) (fun _=>Ev.some rfl)
 obtain⟨y,hy,_⟩:=iR h0 hlt
 refine aB hy (aB hy (eA (fun h=>absurd rfl h) (fun _=> ?_)))
 rw [aM (by omega)]
 exact hr _ ⟨by omega,by omega⟩ (by omega)
theorem P9{α β:Type}{f g:β→α→β}: ∀{l:List α} {b:β},(∀x∈l,∀b,f b x=g b x)→l.foldl f b=l.foldl g b
 | [],_,_=>rfl
 |x::l,b,h=>by
  simp only [List.foldl_cons]
  rw [h x (by simp) b]
  exact P9 (fun y hy=>h y (by simp [hy]))
theorem aI8{p:Prog}{m:List Int}(h:cD p=true)(hm:jK p.arrays m):aAY p m=true:=by
 simp only [aAY,Bool.and_eq_true,decide_eq_true_eq,List.all_eq_true]
 exact⟨h,hm.1,hm.2⟩
theorem aEV{p:Prog}{m:List Int}(h:cD p=true)(hm:jK p.arrays m):m.length≤1000:=by
 obtain⟨hl,hd,_⟩:=kN h
 have:=aEG hd
 have:=hm.1
 omega
def inL:List Loop→List Int→List Int→Bool
 | [],_,[]=>true
 |l::ls,p,v::vs=>decide (jO l p≤v∧v<nF l p)&&inL ls (p++[v]) vs
 |_,_,_=>false
theorem I5: ∀(ls:List Loop) (p q:List Int),q∈pts ls p↔ ∃vs,q=p++vs∧inL ls p vs=true
 | [],p,q=>by
  simp only [pts,List.mem_singleton]
  constructor
  ·rintro rfl;exact⟨[],by simp,rfl⟩
  ·rintro⟨vs,rfl,h⟩
   cases vs with
   |nil=>simp
   |cons=>simp [inL] at h
 |l::ls,p,q=>by
  simp only [pts,List.mem_flatMap,I1]
  constructor
  ·rintro⟨v,hv,hq⟩
   obtain⟨vs,rfl,h⟩:=(I5 ls (p++[v]) q).1 hq
   exact⟨v::vs,by simp,by simp [inL,hv,h]⟩
  ·rintro⟨vs,rfl,h⟩
   cases vs with
   |nil=>simp [inL] at h
   |cons v vs=>
    simp only [inL,Bool.and_eq_true,decide_eq_true_eq] at h
    exact⟨v,h.1,(I5 ls (p++[v]) _).2 ⟨vs,by simp,h.2⟩⟩
def pIn(nest:List Loop)(q:List Int):Bool:=gK nest&&(ptV q&&(decide (q.length=nest.length)&&inL nest [] q))
theorem zU{α:Type}{l:List α}{i:Nat}{x:α}(h:l[i]? =some x):l.take (i+1)=l.take i++[x]:=by
 rw [List.take_add_one,h];rfl
theorem aDp{n:Nat}(hn:6000≤n){nest:List Loop}(hf:Fit nest){q:List Int}(hl:q.length=nest.length){span:Loop→List Int→Option (Int×Int)}
  (hs: ∀(l:Loop) (d:Int) (k:Nat) (p:List Int),cN l.lo d=true→cN l.hi d=true→n7 k p→span l p=some (jO l p,nF l p)):
  aN (fun again6 (x5:Int)=>bif decide (x5<(nest.length:Int)) then(
     Option.bind (ix nest x5) fun x7=>Option.bind (sub q 0 x5) fun x8=>Option.bind (span x7 x8) fun x9=>
     jn (fun(x12:Bool)=>bif x12 then(some false) else(again6 (wr (x5+1))))
      (fun j10=>Option.bind (ix q x5) fun x11=>bif decide (x11<x9.1) then(j10 true) else(j10 (decide (x9.2≤x11))))) else(some true)) n 0=some (inL nest [] q):=by
 refine Ev.eq ?_
 have h4:=hf.1
 refine Ev.loop (fun x:Int=> ∃i:Nat,x=i∧i≤nest.length∧n7 i (q.take i)∧inL nest [] q=inL (nest.drop i) (q.take i) (q.drop i)) (fun x=>nest.length-x.toNat) ?_ n 0 ⟨0,rfl,by omega,pt0,rfl⟩ (by omega)
 rintro again x ⟨i,rfl,hi,hp,hI⟩ hr
 refine aH (fun hlt=> ?_) (fun hge=>Ev.some ?_)
 ·have hg:=List.getElem?_eq_getElem (show i<nest.length by omega)
  have hq:=List.getElem?_eq_getElem (show i<q.length by omega)
  obtain⟨s1,s2⟩:=hf.2 i _ hg
  have hsub:sub q 0 (i:Int)=some (q.take i):=by rw [tR (by omega) (by omega) (by omega),Int.toNat_natCast];rfl
  refine aB (aR hg) (aB hsub (aB (hs _ _ _ _ s1 s2 hp) ?_))
  rw [gF hg,gF hq] at hI
  simp only [inL] at hI
  refine Ev.jn (fun z=>z= !decide (jO nest[i] (q.take i)≤q[i]∧q[i]<nF nest[i] (q.take i))) (fun j hj=>aB (aR hq) (aH (fun h=>hj _ ?_) (fun h=>hj _ ?_))) (fun z hz=> ?_)
  ·dsimp only at h
   rw [decide_eq_false (by omega)];rfl
  ·dsimp only at h⊢
   by_cases h2:nF nest[i] (q.take i)≤q[i]
   ·rw [decide_eq_true h2,decide_eq_false (by omega)];rfl
   ·rw [decide_eq_false h2,decide_eq_true (by omega)];rfl
  ·subst hz
   by_cases hv:jO nest[i] (q.take i)≤q[i]∧q[i]<nF nest[i] (q.take i)
   ·rw [decide_eq_true hv] at hI⊢
    rw [Bool.true_and] at hI
    show Ev (again (wr ((i:Int)+1))) _
    rw [aM (by omega)]
    refine hr _ ⟨i+1,by omega,by omega,?_,?_⟩ (by omega)
    ·rw [zU hq];exact yE s1 s2 hp (by omega) hv
    ·rw [hI,zU hq]
   ·rw [decide_eq_false hv] at hI⊢
    rw [Bool.false_and] at hI
    exact Ev.some hI.symm
 ·have e:i=nest.length:=by omega
  subst e
  rw [hI,List.drop_length,←hl,List.drop_length];rfl
theorem aA3{n:Nat}(hn:6000≤n){nest:List Loop}(h:SmN nest){q:List Int}(hq:q.length≤1000):rA n nest q=some (pIn nest q):=by
 refine Ev.eq ?_
 unfold rA pIn
 refine Ev.jn (fun z=>z= !(gK nest&&(ptV q&&decide (q.length=nest.length)))) (fun j hj=> ?_) (fun z hz=> ?_)
 ·refine aB (uR (by omega) h) ?_
  cases h1:gK nest with
  |false=>rw [h1] at hj;exact hj true rfl
  |true=>
   refine bV (aB (yR (by omega) hq) ?_)
   rw [h1] at hj
   cases h2:ptV q with
   |false=>rw [h2] at hj;exact hj true rfl
   |true=>
    rw [h2] at hj
    refine bV (hj _ ?_)
    rw [show decide ((q.length:Int)=(nest.length:Int))=decide (q.length=nest.length) from decide_eq_decide.2 (by omega)];rfl
 ·subst hz
  cases h1:gK nest with
  |false=>exact Ev.some rfl
  |true=>
   cases h2:ptV q with
   |false=>exact Ev.some rfl
   |true=>
    by_cases h3:q.length=nest.length
    ·rw [decide_eq_true h3]
     refine Ev.of (aDp hn (Q4 h1) h3 (fun l d k p a b c=>aAg (by omega) a b c)) rfl
    ·rw [decide_eq_false h3];exact Ev.some rfl
def instB(p:Prog)(x:Inst):Bool:=match p.parts[x.part.toNat]? with
 |some P=>decide (0≤x.part)&&(decide (0≤x.stmt∧x.stmt<P.body.length)&&pIn P.nest x.point)
 |none=>false
theorem instB_iff{p:Prog}(hv:cD p=true){x:Inst}:instB p x=true↔iE p x:=by
 obtain⟨hl,hd,h4,hpo,hil⟩:=kN hv
 constructor
 ·intro h
  unfold instB at h
  split at h
  ·rename_i P hP
   simp only [Bool.and_eq_true,decide_eq_true_eq,pIn] at h
   obtain⟨h1,⟨h2,h3⟩,g1,g2,g3,g4⟩:=h
   have hk:=List.getElem?_eq_getElem (show x.stmt.toNat<P.body.length by omega)
   have hn:=(iP (hpo P (List.mem_of_getElem? hP))).1
   refine⟨x.part.toNat,x.stmt.toNat,P,_,by omega,by omega,hP,hk,?_⟩
   rw [(aBD hn).2.2.2.1,I5]
   exact⟨x.point,by simp,g4⟩
  ·cases h
 ·rintro⟨i,k,P,s,e1,e2,e3,e4,e5⟩
  unfold instB
  rw [e1,Int.toNat_natCast,e3]
  have hk:=(List.getElem?_eq_some_iff.1 e4).1
  obtain⟨hn,hb,_,hc⟩:=iP (hpo P (List.mem_of_getElem? e3))
  have hpt:=(aBD hn).2.2.1 _ e5
  have hpv:=(hc s (List.mem_of_getElem? e4) _ e5).2
  rw [(aBD hn).2.2.2.1,I5] at e5
  obtain⟨vs,rfl0,h⟩:=e5
  rw [List.nil_append] at rfl0
  have hno:gK P.nest=true:=by
   unfold NP at hn
   split at hn
   ·rename_i h;exact h.1
   ·cases hn
  simp only [Bool.and_eq_true,decide_eq_true_eq,pIn]
  rw [e2]
  exact⟨by omega,⟨by omega,by omega⟩,hno,hpv,hpt.1,by rw [rfl0];exact h⟩
theorem G7{n:Nat}(hn:7000≤n){p:Prog}(hp:SmP p){x:Inst}(hx:x.point.length≤1000):dY n p x=some (instB p x):=by
 obtain⟨hp1,hp2,hp3⟩:=hp
 refine Ev.eq ?_
 unfold dY instB
 refine Ev.jn (fun z=>z=match p.parts[x.part.toNat]? with
 |some P=>decide (0≤x.part)&&(decide (0≤x.stmt∧x.stmt<P.body.length)&&pIn P.nest x.point)
 |none=>false) (fun j hj=>aB (dE _ _ _ _) ?_) (fun z hz=>Ev.some hz)
 rw [aM (by omega)]
 refine aH (fun h=> ?_) (fun h=>hj _ ?_)
 ·have hg:=List.getElem?_eq_getElem (show x.part.toNat<p.parts.length by omega)
  obtain⟨q1,q2,q3⟩:=hp3 _ (List.mem_of_getElem? hg)
  refine aB (x:=p.parts[x.part.toNat]) (by unfold ix;rw [if_pos h.1];exact hg) (aB (dE _ _ _ _) ?_)
  rw [aM (by omega)]
  refine aH (fun h2=>aB (aA3 (by omega) q1 hx) (hj _ ?_)) (fun h2=>hj _ ?_)
  ·rw [hg];dsimp only;rw [decide_eq_true h.1,decide_eq_true (show 0≤x.stmt∧x.stmt<_ by omega)];rfl
  ·rw [hg];dsimp only;rw [decide_eq_true h.1,decide_eq_false (show¬(0≤x.stmt∧x.stmt<_) by omega)];rfl
 ·split
  ·rename_i P hP
   have:=(List.getElem?_eq_some_iff.1 hP).1
   rw [decide_eq_false (by omega)];rfl
  ·rfl
def wc(p:Prog)(x:Inst):Nat:=match qD p x with
 |some s=>(cK p.arrays s.write x.point 0).toNat
 |none=>0
def rc(p:Prog)(x:Inst):List Int:=match qD p x with
 |some s=>(b6 5 s.value).map (fun a=>cK p.arrays a x.point 0)
 |none=>[]
def vl(p:Prog)(m:List Int)(x:Inst):Int:=match qD p x with
 |some s=>tM 5 p.arrays m s.value x.point
 |none=>0
theorem aFc{list:List Arr}(hd:fP list){a:Access}{q:List Int}(h:0≤cK list a q 0):cK list a q 0<gR list:=by
 rcases I9 hd a q 0 (Int.le_refl 0) with hc|hc<;>omega
theorem inst_c{p:Prog}(hv:cD p=true){x:Inst}(hx:iE p x):(wc p x:Int)<gR p.arrays∧(∀c∈rc p x,0≤c∧c<gR p.arrays)∧(rc p x).length≤12∧ ∀m,pB p m x=m.set (wc p x) (vl p m x):=by
 obtain⟨i,k,P,s,d,e1,e2,e3,e4,e5,e6,e7,e8⟩:=inst_d hv hx
 obtain⟨hl,hd,h4,hpo,hil⟩:=kN hv
 obtain⟨c1,c2⟩:=aBj e8
 obtain⟨s1,s2,s3,s4⟩:=kH e6
 unfold wc rc vl pB
 rw [e5]
 dsimp only
 refine⟨by have:=aFc hd c1;omega,fun c hc=> ?_,by rw [List.length_map];exact s4,fun m=>rfl⟩
 obtain⟨a,ha,rfl⟩:=List.mem_map.1 hc
 exact⟨c2 a ha,aFc hd (c2 a ha)⟩
theorem aA2{n:Nat}(hn:7100≤n){p:Prog}(hv:cD p=true){x:Inst}(hx:iE p x):fO n p x=some (rc p x,(wc p x:Int)):=by
 obtain⟨i,k,P,s,d,e1,e2,e3,e4,e5,e6,e7,e8⟩:=inst_d hv hx
 obtain⟨hl,hd,h4,hpo,hil⟩:=kN hv
 obtain⟨c1,c2⟩:=aBj e8
 obtain⟨s1,s2,s3,s4⟩:=kH e6
 obtain⟨n,rfl⟩: ∃j,n=j+1:=⟨n-1,by omega⟩
 have hst:dX (n+1) p x=some s:=by
  unfold dX
  rw [e1,e2,aR e3]
  show Option.bind (ix P.body (k:Int)) _=_
  rw [aR e4];rfl
 have ew:(wc p x:Int)=cK p.arrays s.write x.point 0:=by unfold wc;rw [e5];dsimp only;omega
 have er:rc p x=(b6 5 s.value).map (fun a=>cK p.arrays a x.point 0):=by unfold rc;rw [e5]
 rw [ew,er]
 refine Ev.eq ?_
 unfold fO
 refine aB hst (aB (w6 (d:=d) 5 n s.value (by omega) (by omega) s2) ?_)
 generalize hR:b6 5 s.value=R at*
 refine Ev.loop (fun z:List Int×Int=> ∃i:Nat,z.2=i∧i≤R.length∧z.1=(R.take i).map (fun a=>cK p.arrays a x.point 0)) (fun z=>R.length-z.2.toNat) ?_ (n+1) _ ⟨0,rfl,by omega,by simp⟩ (by dsimp only;omega)
 rintro again ⟨out,z⟩ ⟨i,hz,hi,ho⟩ hr
 dsimp only at hz ho⊢
 subst hz
 refine aH (fun hlt=> ?_) (fun hge=> ?_)
 ·have hg:=List.getElem?_eq_getElem (show i<R.length by omega)
  refine aB (aR hg) (aB (oJ (by omega) hl hd (s3 _ (List.mem_of_getElem? hg)) e7) (aB (cA (by rw [ho,List.length_map,List.length_take,List.length_singleton];omega)) ?_))
  rw [aM (by omega)]
  refine hr _ ⟨i+1,by dsimp only;omega,by omega,?_⟩ (by dsimp only;omega)
  dsimp only
  rw [zU hg,List.map_append,ho];rfl
 ·have e:i=R.length:=by omega
  refine aB (oJ (by omega) hl hd s1 e7) (Ev.some ?_)
  rw [ho,e,List.take_length]
def pick(l:List Inst)(o:List Int):List Inst:=o.filterMap (fun c=>l[c.toNat]?)
def com(p:Prog)(a b:Inst):Prop:= ∀m,jK p.arrays m→pB p (pB p m a) b=pB p (pB p m b) a
def places(o:List Int):Nat→List Int
 |0=>List.replicate o.length 0
 |k+1=>(places o k).set (o.getD k 0).toNat (k:Int)
end Go.Lift
