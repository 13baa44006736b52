/- Programs compose. -/
import Derived.Test.YtiplelpjhgnmoaaGreatUDraw1
set_option maxRecDepth 100000
set_option linter.unusedVariables false
namespace Go.Lift
open Go
theorem N7{α β:Type}{f g:β→α→β}: ∀{l:List α} {b:β},(∀x∈l,∀b,f b x=g b x)→l.foldl f b=l.foldl g b
 | [],_,_=>rfl
 |x::l,b,h=>by
  simp only [List.foldl_cons]
  rw [h x (by simp) b]
  exact N7 (fun y hy=>h y (by simp [hy]))
theorem m8{α:Type}{l:List α}{i:Nat}{x:α}(h:l[i]? =some x):l.take (i+1)=l.take i++[x]:=by
 rw [List.take_add_one,h];rfl
def wc(p:Prog)(x:Inst):Nat:=match oU p x with
 |some s=>(cQ p.arrays s.write x.point 0).toNat
 |none=>0
def rc(p:Prog)(x:Inst):List Int:=match oU p x with
 |some s=>(b9 5 s.value).map (fun a=>cQ p.arrays a x.point 0)
 |none=>[]
def vl(p:Prog)(m:List Int)(x:Inst):Int:=match oU p x with
 |some s=>uU 5 p.arrays m s.value x.point
 |none=>0
theorem aFb{list:List Arr}(hd:jH list){a:Access}{q:List Int}(h:0≤cQ list a q 0):cQ list a q 0<u4 list:=by
 rcases aFc hd a q 0 (Int.le_refl 0) with hc|hc<;>omega
theorem inst_c{p:Prog}(hv:bQ p=true){x:Inst}(hx:iO p x):(wc p x:Int)<u4 p.arrays∧(∀c∈rc p x,0≤c∧c<u4 p.arrays)∧(rc p x).length≤12∧ ∀m,rU p m x=m.set (wc p x) (vl p m x):=by
 obtain⟨i,k,P,s,d,e1,e2,e3,e4,e5,e6,e7,e8⟩:=inst_d hv hx
 obtain⟨hl,hd,h4,hpo,hil⟩:=fV hv
 obtain⟨c1,c2⟩:=aA1 e8
 obtain⟨s1,s2,s3,s4⟩:=lA e6
 unfold wc rc vl rU
 rw [e5]
 dsimp only
 refine⟨by have:=aFb hd c1;omega,fun c hc=> ?_,by rw [List.length_map];exact s4,fun m=>rfl⟩
 obtain⟨a,ha,rfl⟩:=List.mem_map.1 hc
 exact⟨c2 a ha,aFb hd (c2 a ha)⟩
theorem aAG{n:Nat}(hn:7100≤n){p:Prog}(hv:bQ p=true){x:Inst}(hx:iO p x):eQ n p x=some (rc p x,(wc p x:Int)):=by
 obtain⟨i,k,P,s,d,e1,e2,e3,e4,e5,e6,e7,e8⟩:=inst_d hv hx
 obtain⟨hl,hd,h4,hpo,hil⟩:=fV hv
 obtain⟨c1,c2⟩:=aA1 e8
 obtain⟨s1,s2,s3,s4⟩:=lA e6
 obtain⟨n,rfl⟩: ∃j,n=j+1:=⟨n-1,by omega⟩
 have hst:hJ (n+1) p x=some s:=by
  unfold hJ
  rw [e1,e2,aN e3]
  show Option.bind (ix P.body (k:Int)) _=_
  rw [aN e4];rfl
 have ew:(wc p x:Int)=cQ p.arrays s.write x.point 0:=by unfold wc;rw [e5];dsimp only;omega
 have er:rc p x=(b9 5 s.value).map (fun a=>cQ p.arrays a x.point 0):=by unfold rc;rw [e5]
 rw [ew,er]
 refine Ev.eq ?_
 unfold eQ
 refine aA hst (aA (vX (d:=d) 5 n s.value (by omega) (by omega) s2) ?_)
 generalize hR:b9 5 s.value=R at*
 refine Ev.loop (fun z:List Int×Int=> ∃i:Nat,z.2=i∧i≤R.length∧z.1=(R.take i).map (fun a=>cQ p.arrays a x.point 0)) (fun z=>R.length-z.2.toNat) ?_ (n+1) _ ⟨0,rfl,by omega,by simp⟩ (by dsimp only;omega)
 rintro again ⟨out,z⟩ ⟨i,hz,hi,ho⟩ hr
 dsimp only at hz ho⊢
 subst hz
 refine aG (fun hlt=> ?_) (fun hge=> ?_)
 ·have hg:=List.getElem?_eq_getElem (show i<R.length by omega)
  refine aA (aN hg) (aA (uM (by omega) hl hd (s3 _ (List.mem_of_getElem? hg)) e7) (aA (bM (by rw [ho,List.length_map,List.length_take,List.length_singleton];omega)) ?_))
  rw [aK (by omega)]
  refine hr _ ⟨i+1,by dsimp only;omega,by omega,?_⟩ (by dsimp only;omega)
  dsimp only
  rw [m8 hg,List.map_append,ho];rfl
 ·have e:i=R.length:=by omega
  refine aA (uM (by omega) hl hd s1 e7) (Ev.some ?_)
  rw [ho,e,List.take_length]
theorem aFx{n:Nat}(hn:7100≤n){p:Prog}(hv:bQ p=true){x:Inst}(hx:iO p x): ∃P s,ix p.parts x.part=some P∧ix P.body x.stmt=some s∧lB n p.arrays s x.point=some (rc p x,(wc p x:Int),true):=by
 obtain⟨i,k,P,s,d,e1,e2,e3,e4,e5,e6,e7,e8⟩:=inst_d hv hx
 obtain⟨hl,hd,h4,hpo,hil⟩:=fV hv
 obtain⟨c1,c2⟩:=aA1 e8
 have ew:(wc p x:Int)=cQ p.arrays s.write x.point 0:=by unfold wc;rw [e5];dsimp only;omega
 have er:rc p x=(b9 5 s.value).map (fun a=>cQ p.arrays a x.point 0):=by unfold rc;rw [e5]
 refine⟨P,s,by rw [e1];exact aN e3,by rw [e2];exact aN e4,?_⟩
 rw [wZ (by omega) hl hd e6 e7,if_pos e8,ew,er]
def mU(l:List Bool):List Int:=((List.range l.length).filter (fun i=>l.getD i false)).map (fun(i:Nat)=>(i:Int))
theorem aBY{n:Nat}{l:List Bool}(hl:l.length<n)(hl2:l.length≤1000):jS n l=some (mU l):=by
 refine Ev.eq ?_
 unfold jS
 refine Ev.loop (fun z:List Int×Int=> ∃i:Nat,z.2=i∧i≤l.length∧z.1.length≤i∧z.1=((List.range i).filter (fun i=>l.getD i false)).map (fun(i:Nat)=>(i:Int))) (fun z=>l.length-z.2.toNat) ?_ n _ ⟨0,rfl,by omega,by simp,by simp⟩ (by dsimp only;omega)
 rintro again ⟨out,z⟩ ⟨i,hz,hi,hol,ho⟩ hr
 dsimp only at hz ho hol⊢
 subst hz
 refine aG (fun hlt=> ?_) (fun hge=>Ev.some ?_)
 ·have hg:=List.getElem?_eq_getElem (show i<l.length by omega)
  have hgd:l.getD i false=l[i]:=by rw [List.getD_eq_getElem?_getD,hg];rfl
  refine Ev.jn (fun z=>z.length≤i+1∧z=((List.range (i+1)).filter (fun i=>l.getD i false)).map (fun(i:Nat)=>(i:Int))) (fun j hj=>aA (aN hg) (Ev.cond (fun h=>aA (bM (by rw [List.length_singleton];omega)) (hj _ ?_)) (fun h=>hj _ ?_))) (fun z hz=> ?_)
  ·refine⟨by rw [List.length_append,List.length_singleton];omega,?_⟩
   rw [List.range_succ,List.filter_append,List.map_append,←ho]
   simp [hg,h]
  ·refine⟨by omega,?_⟩
   rw [List.range_succ,List.filter_append,List.map_append,←ho]
   simp [hg,h]
  ·rw [aK (by omega)]
   exact hr _ ⟨i+1,by dsimp only;omega,by omega,hz.1,hz.2⟩ (by dsimp only;omega)
 ·have e:i=l.length:=by omega
  rw [ho,e];rfl
theorem aAq{n:Nat}{l:List Bool}(hl:l.length<n)(hl2:l.length≤1000):jS n l=some (mU l):=aBY hl hl2
theorem aAI{n:Nat}(hn:7000≤n){p:Prog}(hp:SmP p): ∃L,cG n p=some (L,bQ p)∧(bQ p=true→L=insts p.parts):=by
 rw [tJ hn hp]
 cases ha:qK p with
 |false=>
  refine⟨[],?_,fun h=> ?_⟩
  ·rw [if_neg (by simp),show bQ p=false by unfold bQ;rw [ha];rfl]
  ·unfold bQ at h;rw [ha] at h;cases h
 |true=>
  refine⟨insts p.parts,?_,fun _=>rfl⟩
  rw [if_pos rfl,show bQ p=decide ((insts p.parts).length≤120) by
   unfold bQ;rw [ha,Bool.true_and];exact decide_eq_decide.2 (by have:=insts_len' p.parts;omega)]
def pick(l:List Inst)(o:List Int):List Inst:=o.filterMap (fun c=>l[c.toNat]?)
def com(p:Prog)(a b:Inst):Prop:= ∀m,R9 p.arrays m→rU p (rU p m a) b=rU p (rU p m b) a
def pP(p:Prog)(a b:Inst):Int:=(if(wc p a:Int)∈rc p b then 1 else 0)+(if(wc p b:Int)∈rc p a then 2 else 0)+(if wc p a=wc p b then 4 else 0)
theorem aKB(p:Prog)(a b:Inst):0≤pP p a b∧pP p a b≤7:=by
 unfold pP
 split<;>split<;>split<;>omega
def kd(p:Prog)(l:List Inst)(i k:Nat):Int:=match l[i]?,l[k]? with
 |some a,some b=>pP p a b
 |_,_=>0
theorem aAE{p:Prog}{l:List Inst}{i k:Nat}{a b:Inst}(h1:l[i]? =some a)(h2:l[k]? =some b):kd p l i k=pP p a b:=by unfold kd;rw [h1,h2]
theorem aMd(p:Prog)(l:List Inst)(i k:Nat):0≤kd p l i k∧kd p l i k≤7:=by
 unfold kd
 split
 ·exact aKB _ _ _
 ·omega
def jO(p:Prog)(l:List Inst)(i j:Nat):List Dep:=((List.range j).filter (fun k=>decide (i<k)&&decide (kd p l i k≠0))).map (fun(k:Nat)=>(⟨(i:Int),(k:Int),kd p l i k⟩:Dep))
def iB(p:Prog)(l:List Inst)(n:Nat):List Dep:=(List.range n).flatMap (fun i=>jO p l i l.length)
theorem oI(p:Prog)(l:List Inst){i j:Nat}(h:i<j):jO p l i (j+1)=jO p l i j++(if kd p l i j=0 then [] else [⟨(i:Int),(j:Int),kd p l i j⟩]):=by
 unfold jO
 rw [List.range_succ,List.filter_append,List.map_append]
 congr 1
 split
 ·rename_i e;simp [e]
 ·rename_i e;simp [e,h]
theorem v8(p:Prog)(l:List Inst)(i:Nat): ∀j,j≤i+1→jO p l i j=[]
 |0,_=>rfl
 |j+1,h=>by
  have ih:=v8 p l i j (by omega)
  unfold jO at ih⊢
  rw [List.range_succ,List.filter_append,List.map_append,ih]
  simp [show¬i<j by omega]
theorem v7(p:Prog)(l:List Inst)(n:Nat):iB p l (n+1)=iB p l n++jO p l n l.length:=by
 unfold iB
 rw [List.range_succ,List.flatMap_append];simp
theorem wA(p:Prog)(l:List Inst)(i j:Nat):(jO p l i j).length≤j:=by
 unfold jO
 rw [List.length_map]
 exact Nat.le_trans (List.length_filter_le _ _) (by simp)
theorem uP(p:Prog)(l:List Inst): ∀n,(iB p l n).length≤n*l.length
 |0=>by simp [iB]
 |n+1=>by
  rw [v7,List.length_append,Nat.add_mul,Nat.one_mul]
  have:=uP p l n
  have:=wA p l n l.length
  omega
theorem aG5{p:Prog}{l:List Inst}{d:Dep}:d∈iB p l l.length↔ ∃i k:Nat,i<k∧k<l.length∧kd p l i k≠0∧d=⟨(i:Int),(k:Int),kd p l i k⟩:=by
 unfold iB jO
 simp only [List.mem_flatMap,List.mem_range,List.mem_map,List.mem_filter,Bool.and_eq_true,decide_eq_true_eq]
 constructor
 ·rintro⟨i,h1,k,⟨h2,h3,h4⟩,rfl⟩;exact⟨i,k,h3,h2,h4,rfl⟩
 ·rintro⟨i,k,h1,h2,h3,rfl⟩;exact⟨i,by omega,k,⟨h2,h1,h3⟩,rfl⟩
def places(o:List Int):Nat→List Int
 |0=>List.replicate o.length 0
 |k+1=>(places o k).set (o.getD k 0).toNat (k:Int)
theorem aH2{p:Prog}{l:List Inst}: ∀d∈iB p l l.length,0≤d.1∧d.1<d.2∧d.2<(l.length:Int):=by
 intro d hd
 obtain⟨i,k,h1,h2,h3,rfl⟩:=aG5.1 hd
 exact⟨by show(0:Int)≤(i:Int);omega,by show(i:Int)<(k:Int);omega,by show(k:Int)<_;omega⟩
theorem xX{n:Nat}{l:List Int}(hl:l.length<n)(hs:l.length≤1000)(v:Int):fE n l v=some (decide (v∈l)):=by
 refine Ev.eq ?_
 unfold fE
 refine aI (P:=fun i=>decide ((0:Int)≤i)=decide (v∈l)) ?_ (fun x hx=>Ev.some hx)
 unfold oG
 refine Ev.loop (fun z:Int=> ∃i:Nat,z=i∧i≤l.length∧v∉l.take i) (fun z=>l.length-z.toNat) ?_ n 0 ⟨0,rfl,by omega,by simp⟩ (by omega)
 rintro again z ⟨i,rfl,hi,hno⟩ hr
 refine aG (fun hlt=> ?_) (fun hge=>Ev.some ?_)
 ·have hg:=List.getElem?_eq_getElem (show i<l.length by omega)
  refine aA (aN hg) (aG (fun e=>Ev.some ?_) (fun e=> ?_))
  ·rw [decide_eq_true (by omega),decide_eq_true];rw [e];exact List.mem_of_getElem? hg
  ·rw [aK (by omega)]
   refine hr _ ⟨i+1,by omega,by omega,?_⟩ (by omega)
   rw [m8 hg,List.mem_append,List.mem_singleton]
   rintro(h|h)
   ·exact hno h
   ·exact e h
 ·have e:i=l.length:=by omega
  rw [e,List.take_length] at hno
  rw [decide_eq_false (by omega),decide_eq_false hno]
theorem J4{n:Nat}{l:List Int}(hl:l.length<n)(hs:l.length≤1000)(v:Int):qL n l v=some (decide (v∈l)):=by
 refine Ev.eq ?_
 unfold qL
 refine Ev.loop (fun z:Int=> ∃i:Nat,z=i∧i≤l.length∧v∉l.take i) (fun z=>l.length-z.toNat) ?_ n 0 ⟨0,rfl,by omega,by simp⟩ (by omega)
 rintro again z ⟨i,rfl,hi,hno⟩ hr
 refine aG (fun hlt=> ?_) (fun hge=>Ev.some ?_)
 ·have hg:=List.getElem?_eq_getElem (show i<l.length by omega)
  refine aA (aN hg) (aG (fun e=>Ev.some ?_) (fun e=> ?_))
  ·rw [decide_eq_true];rw [←e];exact List.mem_of_getElem? hg
  ·rw [aK (by omega)]
   refine hr _ ⟨i+1,by omega,by omega,?_⟩ (by omega)
   rw [m8 hg,List.mem_append,List.mem_singleton]
   rintro(h|h)
   ·exact hno h
   ·exact e h.symm
 ·have e:i=l.length:=by omega
  rw [e,List.take_length] at hno
  rw [decide_eq_false hno]
def trc(p:Prog):Traced:=⟨p,insts p.parts,(insts p.parts).map (rc p),(insts p.parts).map (fun x=>(wc p x:Int))⟩
theorem xH{α β:Type}{l:List α}{f:α→β}{i:Nat}{x:α}(h:l[i]? =some x):(l.map f)[i]? =some (f x):=by rw [List.getElem?_map,h];rfl
theorem L6{α β:Type}{l:List α}{f:α→β}{i:Nat}{x:α}(h:l[i]? =some x):(l.take (i+1)).map f=(l.take i).map f++[f x]:=by rw [m8 h,List.map_append];rfl
theorem aDz{n:Nat}(hn:7100≤n){p:Prog}(hp:SmP p):xN n p=some (if bQ p=true then(some (trc p),true) else(none,false)):=by
 obtain⟨L,h1,h2⟩:=aAI (n:=n) (by omega) hp
 refine Ev.eq ?_
 unfold xN
 refine aA h1 ?_
 dsimp only
 cases hv:bQ p with
 |false=>exact Ev.some rfl
 |true=>
  rw [h2 hv]
  have hil:=(fV hv).2.2.2.2
  refine bT (Ev.loop (fun z:List (List Int)×List Int×Int=> ∃i:Nat,z.2.2=i∧i≤(insts p.parts).length∧z.1=((insts p.parts).take i).map (rc p)∧z.2.1=((insts p.parts).take i).map (fun x=>(wc p x:Int))) (fun z=>(insts p.parts).length-z.2.2.toNat) ?_ n _ ⟨0,rfl,by omega,rfl,rfl⟩ (by first|omega|(dsimp only;omega)))
  rintro again ⟨a,b,z⟩ ⟨i,hz,hi,ha,hb⟩ hr
  dsimp only at hz ha hb⊢
  subst hz
  refine aG (fun hlt=> ?_) (fun hge=>Ev.some ?_)
  ·have hg:=List.getElem?_eq_getElem (show i<(insts p.parts).length by omega)
   refine aA (aN hg) (aA (aAG (by omega) hv (insts_mem (List.mem_of_getElem? hg))) (aA (bM (by rw [ha,List.length_map,List.length_take,List.length_singleton];omega)) (aA (bM (by rw [hb,List.length_map,List.length_take,List.length_singleton];omega)) ?_)))
   rw [aK (by omega)]
   exact hr _ ⟨i+1,by dsimp only;omega,by omega,by dsimp only;rw [L6 hg,ha],by dsimp only;rw [L6 hg,hb]⟩ (by dsimp only;omega)
  ·have e:i=(insts p.parts).length:=by omega
   rw [ha,hb,e,List.take_length];rfl
def V4(p:Prog):List L6Use:=(insts p.parts).map (fun x=>(⟨rc p x,(wc p x:Int)⟩:L6Use))
theorem aFu{n:Nat}(hn:7100≤n){p:Prog}(hv:bQ p=true):sL n p=some (V4 p):=by
 have hil:=(fV hv).2.2.2.2
 refine Ev.eq ?_
 unfold sL V4
 refine aA (s9 (by omega) hv) (Ev.loop (fun z:List L6Use×Int=> ∃i:Nat,z.2=i∧i≤(insts p.parts).length∧z.1=((insts p.parts).take i).map (fun x=>(⟨rc p x,(wc p x:Int)⟩:L6Use))) (fun z=>(insts p.parts).length-z.2.toNat) ?_ n _ ⟨0,rfl,by omega,rfl⟩ (by dsimp only;omega))
 rintro again ⟨a,z⟩ ⟨i,hz,hi,ha⟩ hr
 dsimp only at hz ha⊢
 subst hz
 refine aG (fun hlt=> ?_) (fun hge=>Ev.some ?_)
 ·have hg:=List.getElem?_eq_getElem (show i<(insts p.parts).length by omega)
  obtain⟨P,s,c1,c2,c3⟩:=aFx hn hv (insts_mem (List.mem_of_getElem? hg))
  refine aA (aN hg) (aA c1 (aA c2 (aA c3 (aA (bM (by rw [ha,List.length_map,List.length_take,List.length_singleton];omega)) ?_))))
  rw [aK (by omega)]
  exact hr _ ⟨i+1,by dsimp only;omega,by omega,by dsimp only;rw [L6 hg,ha]⟩ (by dsimp only;omega)
 ·have e:i=(insts p.parts).length:=by omega
  rw [ha,e,List.take_length]
theorem aAu{p:Prog}(hv:bQ p=true){l:List Inst}(hl: ∀x∈l,iO p x){i:Nat}{a:Inst}(h:l[i]? =some a):(rc p a).length≤12:=(inst_c hv (hl _ (List.mem_of_getElem? h))).2.2.1
theorem aER{R:Type}{Q:R→Prop}{A B:Option Bool}{p:Prog}{a b:Inst}(hA:A=some (decide ((wc p a:Int)∈rc p b)))(hB:B=some (decide ((wc p b:Int)∈rc p a))){J:Int→Option R}(h:Ev (J (pP p a b)) Q):
  Ev (jn (fun(x5:Int)=>jn (fun(x10:Int)=>jn J (fun j11=>bif decide ((wc p a:Int)=(wc p b:Int)) then(j11 (wr (x10+4))) else(j11 x10)))
   (fun j6=>Option.bind B fun x9=>bif x9 then(j6 (wr (x5+2))) else(j6 x5)))
   (fun j1=>Option.bind A fun x4=>bif x4 then(j1 (wr (0+1))) else(j1 0))) Q:=by
 refine Ev.jn (fun z=>z=if(wc p a:Int)∈rc p b then 1 else 0) (fun j hj=>aA hA (aG (fun e=>hj _ (by rw [if_pos e];rfl)) (fun e=>hj _ (by rw [if_neg e])))) (fun z hz=> ?_)
 subst hz
 refine Ev.jn (fun z=>z=(if(wc p a:Int)∈rc p b then 1 else 0)+if(wc p b:Int)∈rc p a then 2 else 0) (fun j hj=>aA hB (aG (fun e=>hj _ ?_) (fun e=>hj _ ?_))) (fun z hz=> ?_)
 ·rw [if_pos e];split<;>rfl
 ·rw [if_neg e,Int.add_zero]
 subst hz
 refine Ev.jn (fun z=>z=pP p a b) (fun j hj=>aG (fun e=>hj _ ?_) (fun e=>hj _ ?_)) (fun z hz=>by subst hz;exact h)
 ·unfold pP;rw [if_pos (show wc p a=wc p b by omega)];split<;>split<;>rfl
 ·unfold pP;rw [if_neg (show¬wc p a=wc p b by omega),Int.add_zero]
theorem aAJ{n:Nat}(hn:7100≤n){p:Prog}(hv:bQ p=true){i k:Nat}{a b:Inst}(ha:(insts p.parts)[i]? =some a)(hb:(insts p.parts)[k]? =some b):fH n (trc p) (i:Int) (k:Int)=some (kd p (insts p.parts) i k):=by
 rw [aAE ha hb]
 have la:=aAu hv (fun x hx=>insts_mem hx) ha
 have lb:=aAu hv (fun x hx=>insts_mem hx) hb
 have ra:ix (trc p).reads (i:Int)=some (rc p a):=aN (xH ha)
 have rb:ix (trc p).reads (k:Int)=some (rc p b):=aN (xH hb)
 have wa:ix (trc p).writes (i:Int)=some (wc p a:Int):=aN (xH ha)
 have wb:ix (trc p).writes (k:Int)=some (wc p b:Int):=aN (xH hb)
 refine Ev.eq ?_
 unfold fH
 rw [ra,rb,wa,wb]
 exact aER (xX (by omega) (by omega) _) (xX (by omega) (by omega) _) (Ev.some rfl)
theorem aC7{n:Nat}(hn:7100≤n){p:Prog}{a b:Inst}(la:(rc p a).length≤12)(lb:(rc p b).length≤12):pF n ⟨rc p a,(wc p a:Int)⟩ ⟨rc p b,(wc p b:Int)⟩=some (pP p a b):=by
 refine Ev.eq ?_
 unfold pF
 exact aER (J4 (by omega) (by omega) _) (J4 (by omega) (by omega) _) (Ev.some rfl)
theorem aFO{n:Nat}(hn:7100≤n){p:Prog}(hv:bQ p=true):iY n (trc p)=some (iB p (insts p.parts) (insts p.parts).length):=by
 have hil:=(fV hv).2.2.2.2
 refine Ev.eq ?_
 unfold iY
 rw [show(trc p).list=insts p.parts from rfl]
 generalize hL:insts p.parts=l at*
 have hok: ∀x∈l,iO p x:=fun x hx=>insts_mem (by rw [hL];exact hx)
 refine Ev.loop (fun z:List Dep×Int=> ∃i:Nat,z.2=i∧i≤l.length∧z.1=iB p l i) (fun z=>l.length-z.2.toNat) ?_ n _ ⟨0,rfl,by omega,rfl⟩ (by dsimp only;omega)
 rintro again ⟨a,z⟩ ⟨i,hz,hi,ha⟩ hr
 dsimp only at hz ha⊢
 subst hz
 refine aG (fun hlt=> ?_) (fun hge=>Ev.some ?_)
 ·have hg:=List.getElem?_eq_getElem (show i<l.length by omega)
  rw [aK (by omega)]
  refine Ev.loop (fun z:List Dep×Int=> ∃j:Nat,z.2=j∧i<j∧j≤l.length∧z.1=iB p l i++jO p l i j) (fun z=>l.length-z.2.toNat) ?_ n _ ⟨i+1,by dsimp only;omega,by omega,by omega,by dsimp only;rw [ha,v8 p l i _ (Nat.le_refl _),List.append_nil]⟩ (by dsimp only;omega)
  rintro again2 ⟨b,y⟩ ⟨j,hy,hij,hj,hb⟩ hr2
  dsimp only at hy hb⊢
  subst hy
  refine aG (fun hlt2=> ?_) (fun hge2=> ?_)
  ·have hgj:=List.getElem?_eq_getElem (show j<l.length by omega)
   have hbt:=aAJ hn hv (i:=i) (k:=j) (by rw [hL];exact hg) (by rw [hL];exact hgj)
   rw [hL] at hbt
   have hb0:=(aMd p l i j).1
   refine Ev.jn (fun z=>z=iB p l i++jO p l i (j+1)) (fun jj hjj=>aA hbt (aG (fun e=>aA (bM ?_) (hjj _ ?_)) (fun e=>hjj _ ?_))) (fun z hz=> ?_)
   ·have h1:=uP p l i
    have h2:=wA p l i j
    have h3:i*l.length≤120*120:=Nat.mul_le_mul (by omega) hil
    rw [hb,List.length_append,List.length_singleton];omega
   ·rw [hb,oI p l hij,if_neg (by omega),List.append_assoc]
   ·rw [hb,oI p l hij,if_pos (by omega),List.append_nil]
   ·subst hz
    rw [aK (by omega)]
    exact hr2 _ ⟨j+1,by dsimp only;omega,by omega,by omega,rfl⟩ (by dsimp only;omega)
  ·have e:j=l.length:=by omega
   try rw [aK (by omega)]
   exact hr _ ⟨i+1,by dsimp only;omega,by omega,by dsimp only;rw [hb,e,v7]⟩ (by dsimp only;omega)
 ·have e:i=l.length:=by omega
  rw [ha,e]
theorem aFw{n:Nat}(hn:7100≤n){p:Prog}(hv:bQ p=true):sM n p=some (iB p (insts p.parts) (insts p.parts).length):=by
 have hil:=(fV hv).2.2.2.2
 refine Ev.eq ?_
 unfold sM
 refine aA (aFu hn hv) ?_
 have hul:(V4 p).length=(insts p.parts).length:=by unfold V4;rw [List.length_map]
 have hug: ∀(i:Nat) x,(insts p.parts)[i]? =some x→ix (V4 p) (i:Int)=some ⟨rc p x,(wc p x:Int)⟩:=fun i x h=>aN (xH h)
 rw [hul]
 generalize V4 p=u at*
 generalize hL:insts p.parts=l at*
 have hok: ∀x∈l,iO p x:=fun x hx=>insts_mem (by rw [hL];exact hx)
 refine Ev.loop (fun z:List Dep×Int=> ∃i:Nat,z.2=i∧i≤l.length∧z.1=iB p l i) (fun z=>l.length-z.2.toNat) ?_ n _ ⟨0,rfl,by omega,rfl⟩ (by dsimp only;omega)
 rintro again ⟨a,z⟩ ⟨i,hz,hi,ha⟩ hr
 dsimp only at hz ha⊢
 subst hz
 refine aG (fun hlt=> ?_) (fun hge=>Ev.some ?_)
 ·have hg:=List.getElem?_eq_getElem (show i<l.length by omega)
  rw [aK (by omega)]
  refine Ev.loop (fun z:List Dep×Int=> ∃j:Nat,z.2=j∧i<j∧j≤l.length∧z.1=iB p l i++jO p l i j) (fun z=>l.length-z.2.toNat) ?_ n _ ⟨i+1,by dsimp only;omega,by omega,by omega,by dsimp only;rw [ha,v8 p l i _ (Nat.le_refl _),List.append_nil]⟩ (by dsimp only;omega)
  rintro again2 ⟨b,y⟩ ⟨j,hy,hij,hj,hb⟩ hr2
  dsimp only at hy hb⊢
  subst hy
  refine aG (fun hlt2=> ?_) (fun hge2=> ?_)
  ·have hgj:=List.getElem?_eq_getElem (show j<l.length by omega)
   have hk:=aC7 hn (aAu hv hok hg) (aAu hv hok hgj)
   refine Ev.jn (fun z=>z=iB p l i++jO p l i (j+1)) (fun jj hjj=>aA (hug _ _ hg) (aA (hug _ _ hgj) (aA hk (dP (fun e=>aA (bM ?_) (hjj _ ?_)) (fun e=>hjj _ ?_))))) (fun z hz=> ?_)
   ·have h1:=uP p l i
    have h2:=wA p l i j
    have h3:i*l.length≤120*120:=Nat.mul_le_mul (by omega) hil
    rw [hb,List.length_append,List.length_singleton];omega
   ·rw [hb,oI p l hij,aAE hg hgj,if_neg e,List.append_assoc]
   ·rw [hb,oI p l hij,aAE hg hgj,if_pos e,List.append_nil]
   ·subst hz
    rw [aK (by omega)]
    exact hr2 _ ⟨j+1,by dsimp only;omega,by omega,by omega,rfl⟩ (by dsimp only;omega)
  ·have e:j=l.length:=by omega
   try rw [aK (by omega)]
   exact hr _ ⟨i+1,by dsimp only;omega,by omega,by dsimp only;rw [hb,e,v7]⟩ (by dsimp only;omega)
 ·have e:i=l.length:=by omega
  rw [ha,e]
theorem xV{p:Prog}{l:List Inst}(hl:l.length≤120):(iB p l l.length).length≤15000:=by
 have h1:=uP p l l.length
 have h2:l.length*l.length≤120*120:=Nat.mul_le_mul hl hl
 omega
theorem V6{a b:List Int}{n:Nat}(hn:a.length<n)(hl:a.length≤1000000):
  (bif !decide ((a.length:Int)=(b.length:Int)) then(some false) else(aL (fun again2 (x1:Int)=>bif decide (x1<(a.length:Int)) then(Option.bind (ix a x1) fun x3=>Option.bind (ix b x1) fun x4=>bif !decide (x3=x4) then(some false) else(again2 (wr (x1+1)))) else(some true)) n 0))=some (decide (a=b)):=by
 refine Ev.eq (dP (fun h=>Ev.some ?_) (fun h=> ?_))
 ·exact(decide_eq_false (fun e=>h (by rw [e]))).symm
 ·refine Ev.loop (fun x:Int=> ∃i:Nat,x=i∧i≤a.length∧a.take i=b.take i) (fun x=>a.length-x.toNat) ?_ n 0 ⟨0,rfl,by omega,rfl⟩ (by omega)
  rintro again x ⟨i,rfl,hi,hs⟩ hr
  refine aG (fun hlt=> ?_) (fun hge=>Ev.some ?_)
  ·have h1:i<a.length:=by omega
   have h2:i<b.length:=by omega
   have ha:=List.getElem?_eq_getElem h1
   have hb:=List.getElem?_eq_getElem h2
   refine aA (aN ha) (aA (aN hb) ?_)
   refine dP (fun hne=>Ev.some ?_) (fun he=> ?_)
   ·exact(decide_eq_false (fun e=>hne (by subst e;rfl))).symm
   ·rw [aK (by omega)]
    exact hr _ ⟨i+1,by omega,by omega,by rw [m8 ha,m8 hb,hs,he]⟩ (by omega)
  ·have e1:a.take i=a:=List.take_of_length_le (by omega)
   have e2:b.take i=b:=List.take_of_length_le (by omega)
   rw [e1,e2] at hs
   exact(decide_eq_true hs).symm
theorem M3{n:Nat}{a b:List Int}(hn:a.length<n)(hl:a.length≤1000000):jW n a b=some (decide (a=b)):=by unfold jW;exact V6 hn hl
theorem aBE{n:Nat}{a b:List Int}(hn:a.length<n)(hl:a.length≤1000000):sZ n a b=some (decide (a=b)):=by unfold sZ;exact V6 hn hl
end Go.Lift
