/- Programs compose. -/
import Derived.Test.YtiplelpjhgnmoaaGreatMDraw1
set_option maxRecDepth 100000
set_option linter.unusedVariables false
namespace Go.Lift
open Go
theorem wG{α β:Type}{f g:β→α→β}: ∀{l:List α} {b:β},(∀x∈l,∀b,f b x=g b x)→l.foldl f b=l.foldl g b
 | [],_,_=>rfl
 |x::l,b,h=>by
  simp only [List.foldl_cons]
  rw [h x (by simp) b]
  exact wG (fun y hy=>h y (by simp [hy]))
theorem W4{α:Type}{l:List α}{i:Nat}{x:α}(h:l[i]? =some x):l.take (i+1)=l.take i++[x]:=by
 rw [List.take_add_one,h];rfl
def wc(p:Prog)(x:Inst):Nat:=match kI p x with
 |some s=>(cO p.arrays s.write x.point 0).toNat
 |none=>0
def rc(p:Prog)(x:Inst):List Int:=match kI p x with
 |some s=>(b9 5 s.value).map (fun a=>cO p.arrays a x.point 0)
 |none=>[]
def vl(p:Prog)(m:List Int)(x:Inst):Int:=match kI p x with
 |some s=>sE 5 p.arrays m s.value x.point
 |none=>0
theorem aE9{list:List Arr}(hd:jO list){a:Access}{q:List Int}(h:0≤cO list a q 0):cO list a q 0<u6 list:=by
 rcases aFa hd a q 0 (Int.le_refl 0) with hc|hc<;>omega
theorem inst_c{p:Prog}(hv:bX p=true){x:Inst}(hx:oJ p x):(wc p x:Int)<u6 p.arrays∧(∀c∈rc p x,0≤c∧c<u6 p.arrays)∧(rc p x).length≤12∧ ∀m,qZ p m x=m.set (wc p x) (vl p m x):=by
 obtain⟨i,k,P,s,d,e1,e2,e3,e4,e5,e6,e7,e8⟩:=inst_d hv hx
 obtain⟨hl,hd,h4,hpo,hil⟩:=jU hv
 obtain⟨c1,c2⟩:=aBh e8
 obtain⟨s1,s2,s3,s4⟩:=gW e6
 unfold wc rc vl qZ
 rw [e5]
 dsimp only
 refine⟨by have:=aE9 hd c1;omega,fun c hc=> ?_,by rw [List.length_map];exact s4,fun m=>rfl⟩
 obtain⟨a,ha,rfl⟩:=List.mem_map.1 hc
 exact⟨c2 a ha,aE9 hd (c2 a ha)⟩
theorem aAV{n:Nat}(hn:7100≤n){p:Prog}(hv:bX p=true){x:Inst}(hx:oJ p x):eY n p x=some (rc p x,(wc p x:Int)):=by
 obtain⟨i,k,P,s,d,e1,e2,e3,e4,e5,e6,e7,e8⟩:=inst_d hv hx
 obtain⟨hl,hd,h4,hpo,hil⟩:=jU hv
 obtain⟨c1,c2⟩:=aBh e8
 obtain⟨s1,s2,s3,s4⟩:=gW e6
 obtain⟨n,rfl⟩: ∃j,n=j+1:=⟨n-1,by omega⟩
 have hst:iH (n+1) p x=some s:=by
  unfold iH
  rw [e1,e2,aQ e3]
  show Option.bind (ix P.body (k:Int)) _=_
  rw [aQ e4];rfl
 have ew:(wc p x:Int)=cO p.arrays s.write x.point 0:=by unfold wc;rw [e5];dsimp only;omega
 have er:rc p x=(b9 5 s.value).map (fun a=>cO p.arrays a x.point 0):=by unfold rc;rw [e5]
 rw [ew,er]
 refine Ev.eq ?_
 unfold eY
 refine aB hst (aB (wE (d:=d) 5 n s.value (by omega) (by omega) s2) ?_)
 generalize hR:b9 5 s.value=R at*
 refine Ev.loop (fun z:List Int×Int=> ∃i:Nat,z.2=i∧i≤R.length∧z.1=(R.take i).map (fun a=>cO p.arrays a x.point 0)) (fun z=>R.length-z.2.toNat) ?_ (n+1) _ ⟨0,rfl,by omega,by simp⟩ (by dsimp only;omega)
 rintro again ⟨out,z⟩ ⟨i,hz,hi,ho⟩ hr
 dsimp only at hz ho⊢
 subst hz
 refine aG (fun hlt=> ?_) (fun hge=> ?_)
 ·have hg:=List.getElem?_eq_getElem (show i<R.length by omega)
  refine aB (aQ hg) (aB (uN (by omega) hl hd (s3 _ (List.mem_of_getElem? hg)) e7) (aB (bT (by rw [ho,List.length_map,List.length_take,List.length_singleton];omega)) ?_))
  rw [aM (by omega)]
  refine hr _ ⟨i+1,by dsimp only;omega,by omega,?_⟩ (by dsimp only;omega)
  dsimp only
  rw [W4 hg,List.map_append,ho];rfl
 ·have e:i=R.length:=by omega
  refine aB (uN (by omega) hl hd s1 e7) (Ev.some ?_)
  rw [ho,e,List.take_length]
theorem aFx{n:Nat}(hn:7100≤n){p:Prog}(hv:bX p=true){x:Inst}(hx:oJ p x): ∃P s,ix p.parts x.part=some P∧ix P.body x.stmt=some s∧lD n p.arrays s x.point=some (rc p x,(wc p x:Int),true):=by
 obtain⟨i,k,P,s,d,e1,e2,e3,e4,e5,e6,e7,e8⟩:=inst_d hv hx
 obtain⟨hl,hd,h4,hpo,hil⟩:=jU hv
 obtain⟨c1,c2⟩:=aBh e8
 have ew:(wc p x:Int)=cO p.arrays s.write x.point 0:=by unfold wc;rw [e5];dsimp only;omega
 have er:rc p x=(b9 5 s.value).map (fun a=>cO p.arrays a x.point 0):=by unfold rc;rw [e5]
 refine⟨P,s,by rw [e1];exact aQ e3,by rw [e2];exact aQ e4,?_⟩
 rw [w7 (by omega) hl hd e6 e7,if_pos e8,ew,er]
theorem aAX{n:Nat}(hn:7000≤n){p:Prog}(hp:SmP p): ∃L,cJ n p=some (L,bX p)∧(bX p=true→L=insts p.parts):=by
 rw [tN hn hp]
 cases ha:qR p with
 |false=>
  refine⟨[],?_,fun h=> ?_⟩
  ·rw [if_neg (by simp),show bX p=false by unfold bX;rw [ha];rfl]
  ·unfold bX at h;rw [ha] at h;cases h
 |true=>
  refine⟨insts p.parts,?_,fun _=>rfl⟩
  rw [if_pos rfl,show bX p=decide ((insts p.parts).length≤120) by
   unfold bX;rw [ha,Bool.true_and];exact decide_eq_decide.2 (by have:=insts_len' p.parts;omega)]
def pick(l:List Inst)(o:List Int):List Inst:=o.filterMap (fun c=>l[c.toNat]?)
def com(p:Prog)(a b:Inst):Prop:= ∀m,S8 p.arrays m→qZ p (qZ p m a) b=qZ p (qZ p m b) a
def places(o:List Int):Nat→List Int
 |0=>List.replicate o.length 0
 |k+1=>(places o k).set (o.getD k 0).toNat (k:Int)
def trc(p:Prog):Traced:=⟨p,insts p.parts,(insts p.parts).map (rc p),(insts p.parts).map (fun x=>(wc p x:Int))⟩
theorem aAR{α β:Type}{l:List α}{f:α→β}{i:Nat}{x:α}(h:l[i]? =some x):(l.map f)[i]? =some (f x):=by rw [List.getElem?_map,h];rfl
theorem L8{α β:Type}{l:List α}{f:α→β}{i:Nat}{x:α}(h:l[i]? =some x):(l.take (i+1)).map f=(l.take i).map f++[f x]:=by rw [W4 h,List.map_append];rfl
theorem aDF{n:Nat}(hn:7100≤n){p:Prog}(hp:SmP p):xR n p=some (if bX p=true then(some (trc p),true) else(none,false)):=by
 obtain⟨L,h1,h2⟩:=aAX (n:=n) (by omega) hp
 refine Ev.eq ?_
 unfold xR
 refine aB h1 ?_
 dsimp only
 cases hv:bX p with
 |false=>exact Ev.some rfl
 |true=>
  rw [h2 hv]
  have hil:=(jU hv).2.2.2.2
  refine cE (Ev.loop (fun z:List (List Int)×List Int×Int=> ∃i:Nat,z.2.2=i∧i≤(insts p.parts).length∧z.1=((insts p.parts).take i).map (rc p)∧z.2.1=((insts p.parts).take i).map (fun x=>(wc p x:Int))) (fun z=>(insts p.parts).length-z.2.2.toNat) ?_ n _ ⟨0,rfl,by omega,rfl,rfl⟩ (by first|omega|(dsimp only;omega)))
  rintro again ⟨a,b,z⟩ ⟨i,hz,hi,ha,hb⟩ hr
  dsimp only at hz ha hb⊢
  subst hz
  refine aG (fun hlt=> ?_) (fun hge=>Ev.some ?_)
  ·have hg:=List.getElem?_eq_getElem (show i<(insts p.parts).length by omega)
   refine aB (aQ hg) (aB (aAV (by omega) hv (insts_mem (List.mem_of_getElem? hg))) (aB (bT (by rw [ha,List.length_map,List.length_take,List.length_singleton];omega)) (aB (bT (by rw [hb,List.length_map,List.length_take,List.length_singleton];omega)) ?_)))
   rw [aM (by omega)]
   exact hr _ ⟨i+1,by dsimp only;omega,by omega,by dsimp only;rw [L8 hg,ha],by dsimp only;rw [L8 hg,hb]⟩ (by dsimp only;omega)
  ·have e:i=(insts p.parts).length:=by omega
   rw [ha,hb,e,List.take_length];rfl
def aBL(p:Prog):List L6Use:=(insts p.parts).map (fun x=>(⟨rc p x,(wc p x:Int)⟩:L6Use))
theorem aFv{n:Nat}(hn:7100≤n){p:Prog}(hv:bX p=true):sU n p=some (aBL p):=by
 have hil:=(jU hv).2.2.2.2
 refine Ev.eq ?_
 unfold sU aBL
 refine aB (J5 (by omega) hv) (Ev.loop (fun z:List L6Use×Int=> ∃i:Nat,z.2=i∧i≤(insts p.parts).length∧z.1=((insts p.parts).take i).map (fun x=>(⟨rc p x,(wc p x:Int)⟩:L6Use))) (fun z=>(insts p.parts).length-z.2.toNat) ?_ n _ ⟨0,rfl,by omega,rfl⟩ (by dsimp only;omega))
 rintro again ⟨a,z⟩ ⟨i,hz,hi,ha⟩ hr
 dsimp only at hz ha⊢
 subst hz
 refine aG (fun hlt=> ?_) (fun hge=>Ev.some ?_)
 ·have hg:=List.getElem?_eq_getElem (show i<(insts p.parts).length by omega)
  obtain⟨P,s,c1,c2,c3⟩:=aFx hn hv (insts_mem (List.mem_of_getElem? hg))
  refine aB (aQ hg) (aB c1 (aB c2 (aB c3 (aB (bT (by rw [ha,List.length_map,List.length_take,List.length_singleton];omega)) ?_))))
  rw [aM (by omega)]
  exact hr _ ⟨i+1,by dsimp only;omega,by omega,by dsimp only;rw [L8 hg,ha]⟩ (by dsimp only;omega)
 ·have e:i=(insts p.parts).length:=by omega
  rw [ha,e,List.take_length]
end Go.Lift
