/- Programs compose. -/
import Derived.Test.YtiplelpjhgnmoaaGreatZDraw1
set_option maxRecDepth 100000
set_option linter.unusedVariables false
namespace Go.Lift
open Go
theorem B5{α:Type}{l:List α}{i:Nat}{x:α}(h:l[i]? =some x):l.take (i+1)=l.take i++[x]:=by
 rw [List.take_add_one,h];rfl
def wc(p:Prog)(x:Inst):Nat:=match tU p x with
 |some s=>(cN p.arrays s.write x.point 0).toNat
 |none=>0
def rc(p:Prog)(x:Inst):List Int:=match tU p x with
 |some s=>(cC 5 s.value).map (fun a=>cN p.arrays a x.point 0)
 |none=>[]
def vl(p:Prog)(m:List Int)(x:Inst):Int:=match tU p x with
 |some s=>wV 5 p.arrays m s.value x.point
 |none=>0
theorem aA8{list:List Arr}(hd:gC list){a:Access}{q:List Int}(h:0≤cN list a q 0):cN list a q 0<kS list:=by
 rcases aA9 hd a q 0 (Int.le_refl 0) with hc|hc<;>omega
theorem inst_c{p:Prog}(hv:cR p=true){x:Inst}(hx:n8 p x):(wc p x:Int)<kS p.arrays∧(∀c∈rc p x,0≤c∧c<kS p.arrays)∧(rc p x).length≤12∧ ∀m,pE p m x=m.set (wc p x) (vl p m x):=by
 obtain⟨i,k,P,s,d,e1,e2,e3,e4,e5,e6,e7,e8⟩:=inst_d hv hx
 obtain⟨hl,hd,h4,hpo,hil⟩:=l5 hv
 obtain⟨c1,c2⟩:=K5 e8
 obtain⟨s1,s2,s3,s4⟩:=w5 e6
 unfold wc rc vl pE
 rw [e5]
 dsimp only
 refine⟨by have:=aA8 hd c1;omega,fun c hc=> ?_,by rw [List.length_map];exact s4,fun m=>rfl⟩
 obtain⟨a,ha,rfl⟩:=List.mem_map.1 hc
 exact⟨c2 a ha,aA8 hd (c2 a ha)⟩
theorem I4{n:Nat}(hn:7100≤n){p:Prog}(hv:cR p=true){x:Inst}(hx:n8 p x):dT n p x=some (rc p x,(wc p x:Int)):=by
 obtain⟨i,k,P,s,d,e1,e2,e3,e4,e5,e6,e7,e8⟩:=inst_d hv hx
 obtain⟨hl,hd,h4,hpo,hil⟩:=l5 hv
 obtain⟨c1,c2⟩:=K5 e8
 obtain⟨s1,s2,s3,s4⟩:=w5 e6
 obtain⟨n,rfl⟩: ∃j,n=j+1:=⟨n-1,by omega⟩
 have hst:fJ (n+1) p x=some s:=by
  unfold fJ
  rw [e1,e2,aP e3]
  show Option.bind (ix P.body (k:Int)) _=_
  rw [aP e4];rfl
 have ew:(wc p x:Int)=cN p.arrays s.write x.point 0:=by unfold wc;rw [e5];dsimp only;omega
 have er:rc p x=(cC 5 s.value).map (fun a=>cN p.arrays a x.point 0):=by unfold rc;rw [e5]
 rw [ew,er]
 refine Ev.eq ?_
 unfold dT
 refine aA hst (aA (q9 (d:=d) 5 n s.value (by omega) (by omega) s2) ?_)
 generalize hR:cC 5 s.value=R at*
 refine Ev.loop (fun z:List Int×Int=> ∃i:Nat,z.2=i∧i≤R.length∧z.1=(R.take i).map (fun a=>cN p.arrays a x.point 0)) (fun z=>R.length-z.2.toNat) ?_ (n+1) _ ⟨0,rfl,by omega,by simp⟩ (by dsimp only;omega)
 rintro again ⟨out,z⟩ ⟨i,hz,hi,ho⟩ hr
 dsimp only at hz ho⊢
 subst hz
 refine aG (fun hlt=> ?_) (fun hge=> ?_)
 ·have hg:=List.getElem?_eq_getElem (show i<R.length by omega)
  refine aA (aP hg) (aA (qC (by omega) hl hd (s3 _ (List.mem_of_getElem? hg)) e7) (aA (bL (by rw [ho,List.length_map,List.length_take,List.length_singleton];omega)) ?_))
  rw [aJ (by omega)]
  refine hr _ ⟨i+1,by dsimp only;omega,by omega,?_⟩ (by dsimp only;omega)
  dsimp only
  rw [B5 hg,List.map_append,ho];rfl
 ·have e:i=R.length:=by omega
  refine aA (qC (by omega) hl hd s1 e7) (Ev.some ?_)
  rw [ho,e,List.take_length]
theorem aBm{n:Nat}(hn:7100≤n){p:Prog}(hv:cR p=true){x:Inst}(hx:n8 p x): ∃P s,ix p.parts x.part=some P∧ix P.body x.stmt=some s∧iH n p.arrays s x.point=some (rc p x,(wc p x:Int),true):=by
 obtain⟨i,k,P,s,d,e1,e2,e3,e4,e5,e6,e7,e8⟩:=inst_d hv hx
 obtain⟨hl,hd,h4,hpo,hil⟩:=l5 hv
 obtain⟨c1,c2⟩:=K5 e8
 have ew:(wc p x:Int)=cN p.arrays s.write x.point 0:=by unfold wc;rw [e5];dsimp only;omega
 have er:rc p x=(cC 5 s.value).map (fun a=>cN p.arrays a x.point 0):=by unfold rc;rw [e5]
 refine⟨P,s,by rw [e1];exact aP e3,by rw [e2];exact aP e4,?_⟩
 rw [rZ (by omega) hl hd e6 e7,if_pos e8,ew,er]
theorem I6{n:Nat}(hn:7000≤n){p:Prog}(hp:SmP p): ∃L,bV n p=some (L,cR p)∧(cR p=true→L=insts p.parts):=by
 rw [pK hn hp]
 cases ha:nA p with
 |false=>
  refine⟨[],?_,fun h=> ?_⟩
  ·rw [if_neg (by simp),show cR p=false by unfold cR;rw [ha];rfl]
  ·unfold cR at h;rw [ha] at h;cases h
 |true=>
  refine⟨insts p.parts,?_,fun _=>rfl⟩
  rw [if_pos rfl,show cR p=decide ((insts p.parts).length≤120) by
   unfold cR;rw [ha,Bool.true_and];exact decide_eq_decide.2 (by have:=insts_len' p.parts;omega)]
theorem aGs{p:Prog}(hv:cR p=true):0≤kS p.arrays∧kS p.arrays≤144:=by
 obtain⟨hl,hd,h4,hpo,hil⟩:=l5 hv
 have:=aEn hd
 omega
def pick(l:List Inst)(o:List Int):List Inst:=o.filterMap (fun c=>l[c.toNat]?)
def com(p:Prog)(a b:Inst):Prop:= ∀m,zT p.arrays m→pE p (pE p m a) b=pE p (pE p m b) a
def places(o:List Int):Nat→List Int
 |0=>List.replicate o.length 0
 |k+1=>(places o k).set (o.getD k 0).toNat (k:Int)
def trc(p:Prog):Traced:=⟨p,insts p.parts,(insts p.parts).map (rc p),(insts p.parts).map (fun x=>(wc p x:Int))⟩
theorem I1{α β:Type}{l:List α}{f:α→β}{i:Nat}{x:α}(h:l[i]? =some x):(l.map f)[i]? =some (f x):=by rw [List.getElem?_map,h];rfl
theorem yC{α β:Type}{l:List α}{f:α→β}{i:Nat}{x:α}(h:l[i]? =some x):(l.take (i+1)).map f=(l.take i).map f++[f x]:=by rw [B5 h,List.map_append];rfl
theorem Y2{n:Nat}(hn:7100≤n){p:Prog}(hp:SmP p):sV n p=some (if cR p=true then(some (trc p),true) else(none,false)):=by
 obtain⟨L,h1,h2⟩:=I6 (n:=n) (by omega) hp
 refine Ev.eq ?_
 unfold sV
 refine aA h1 ?_
 dsimp only
 cases hv:cR p with
 |false=>exact Ev.some rfl
 |true=>
  rw [h2 hv]
  have hil:=(l5 hv).2.2.2.2
  refine cG (Ev.loop (fun z:List (List Int)×List Int×Int=> ∃i:Nat,z.2.2=i∧i≤(insts p.parts).length∧z.1=((insts p.parts).take i).map (rc p)∧z.2.1=((insts p.parts).take i).map (fun x=>(wc p x:Int))) (fun z=>(insts p.parts).length-z.2.2.toNat) ?_ n _ ⟨0,rfl,by omega,rfl,rfl⟩ (by first|omega|(dsimp only;omega)))
  rintro again ⟨a,b,z⟩ ⟨i,hz,hi,ha,hb⟩ hr
  dsimp only at hz ha hb⊢
  subst hz
  refine aG (fun hlt=> ?_) (fun hge=>Ev.some ?_)
  ·have hg:=List.getElem?_eq_getElem (show i<(insts p.parts).length by omega)
   refine aA (aP hg) (aA (I4 (by omega) hv (insts_mem (List.mem_of_getElem? hg))) (aA (bL (by rw [ha,List.length_map,List.length_take,List.length_singleton];omega)) (aA (bL (by rw [hb,List.length_map,List.length_take,List.length_singleton];omega)) ?_)))
   rw [aJ (by omega)]
   exact hr _ ⟨i+1,by dsimp only;omega,by omega,by dsimp only;rw [yC hg,ha],by dsimp only;rw [yC hg,hb]⟩ (by dsimp only;omega)
  ·have e:i=(insts p.parts).length:=by omega
   rw [ha,hb,e,List.take_length];rfl
def N4(p:Prog):List L6Use:=(insts p.parts).map (fun x=>(⟨rc p x,(wc p x:Int)⟩:L6Use))
theorem aBk{n:Nat}(hn:7100≤n){p:Prog}(hv:cR p=true):oW n p=some (N4 p):=by
 have hil:=(l5 hv).2.2.2.2
 refine Ev.eq ?_
 unfold oW N4
 refine aA (xE (by omega) hv) (Ev.loop (fun z:List L6Use×Int=> ∃i:Nat,z.2=i∧i≤(insts p.parts).length∧z.1=((insts p.parts).take i).map (fun x=>(⟨rc p x,(wc p x:Int)⟩:L6Use))) (fun z=>(insts p.parts).length-z.2.toNat) ?_ n _ ⟨0,rfl,by omega,rfl⟩ (by dsimp only;omega))
 rintro again ⟨a,z⟩ ⟨i,hz,hi,ha⟩ hr
 dsimp only at hz ha⊢
 subst hz
 refine aG (fun hlt=> ?_) (fun hge=>Ev.some ?_)
 ·have hg:=List.getElem?_eq_getElem (show i<(insts p.parts).length by omega)
  obtain⟨P,s,c1,c2,c3⟩:=aBm hn hv (insts_mem (List.mem_of_getElem? hg))
  refine aA (aP hg) (aA c1 (aA c2 (aA c3 (aA (bL (by rw [ha,List.length_map,List.length_take,List.length_singleton];omega)) ?_))))
  rw [aJ (by omega)]
  exact hr _ ⟨i+1,by dsimp only;omega,by omega,by dsimp only;rw [yC hg,ha]⟩ (by dsimp only;omega)
 ·have e:i=(insts p.parts).length:=by omega
  rw [ha,e,List.take_length]
end Go.Lift
