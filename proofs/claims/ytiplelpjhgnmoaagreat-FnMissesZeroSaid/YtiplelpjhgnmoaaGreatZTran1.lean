/- Two programs that do the same. -/
import Derived.Test.YtiplelpjhgnmoaaGreatZRun1
import Derived.Test.YtiplelpjhgnmoaaGreatZDraw1
import Derived.Test.YtiplelpjhgnmoaaGreatZDrawD
import Derived.Test.YtiplelpjhgnmoaaGreatZLiftLib
set_option maxRecDepth 100000
set_option linter.unusedVariables false
namespace Go.Lift
open Go
def bB(m:Int)(a:Affine):Prop:=a.coefs.length=4∧wK m a.const∧ ∀c∈a.coefs,wK m c
theorem bB.mono{m m':Int}{a:Affine}(h:bB m a)(hm:m≤m'):bB m' a:=⟨h.1,⟨by have:=h.2.1.1;omega,by have:=h.2.1.2;omega⟩,fun c hc=>⟨by have:=(h.2.2 c hc).1;omega,by have:=(h.2.2 c hc).2;omega⟩⟩
def kA(k:Nat)(s:Int):Affine:=⟨[0,0,0,0].set k s,0⟩
def low(k:Nat)(b:Affine):Prop:= ∀j,k≤j→b.coefs.getD j 0=0
theorem aDB{p:Prog}(hv:cR p=true){x:Inst}(hx:n8 p x): ∀{Y:List Inst} {m:List Int},(∀y∈Y,n8 p y)→(∀y∈Y,com p x y)→zT p.arrays m→jQ p (pE p m x) Y=pE p (jQ p m Y) x
 | [],m,_,_,_=>rfl
 |y::Y,m,h1,h2,hm=>by
  show jQ p (pE p (pE p m x) y) Y=pE p (jQ p (pE p m y) Y) x
  rw [h2 y List.mem_cons_self m hm]
  exact aDB hv hx (fun z hz=>h1 z (List.mem_cons_of_mem _ hz)) (fun z hz=>h2 z (List.mem_cons_of_mem _ hz)) (aAN hv hm (h1 y List.mem_cons_self))
theorem block{p:Prog}(hv:cR p=true): ∀{X Y:List Inst} {m:List Int},(∀x∈X,n8 p x)→(∀y∈Y,n8 p y)→(∀x∈X,∀y∈Y,com p x y)→zT p.arrays m→jQ p (jQ p m X) Y=jQ p (jQ p m Y) X
 | [],Y,m,_,_,_,_=>rfl
 |x::X,Y,m,h1,h2,h3,hm=>by
  show jQ p (jQ p (pE p m x) X) Y=jQ p (pE p (jQ p m Y) x) X
  rw [block hv (fun z hz=>h1 z (List.mem_cons_of_mem _ hz)) h2 (fun z hz=>h3 z (List.mem_cons_of_mem _ hz)) (aAN hv hm (h1 x List.mem_cons_self)),aDB hv (h1 x List.mem_cons_self) h2 (h3 x List.mem_cons_self) hm]
def zZ(c:Int)(st:List Int):Int:=if c∈st then(st.idxOf c:Int) else-1
def qV(c:Int)(st:List Int):List Int:=c::st.filter (fun x=> !decide (x=c))
def jN:List Int→List Int→List Int
 |_,[]=>[]
 |st,c::t=>zZ c st::jN (qV c st) t
theorem rW{c:Int}{st:List Int}(h:st.Nodup):(qV c st).Nodup:=by
 unfold qV
 rw [List.nodup_cons]
 exact⟨fun hm=>by simp at hm,h.filter _⟩
theorem yX{c:Int}: ∀{l:List Int},l.Nodup→l.length≤(l.filter (fun x=> !decide (x=c))).length+1
 | [],_=>by simp
 |x::l,h=>by
  rw [List.nodup_cons] at h
  by_cases hx:x=c
  ·subst hx
   rw [List.filter_cons_of_neg (by simp),List.filter_eq_self.2 (fun y hy=>by simp;intro e;subst e;exact h.1 hy)]
   simp
  ·rw [List.filter_cons_of_pos (by simp [hx])]
   have:=yX (c:=c) h.2
   simp only [List.length_cons];omega
theorem s7{c:Int}: ∀{l:List Int},l.Nodup→l.erase c=l.filter (fun x=> !decide (x=c))
 | [],_=>rfl
 |x::l,h=>by
  rw [List.nodup_cons] at h
  by_cases hx:x=c
  ·subst hx
   rw [List.erase_cons_head,List.filter_cons_of_neg (by simp),List.filter_eq_self.2 (fun y hy=>by simp;intro e;subst e;exact h.1 hy)]
  ·rw [List.erase_cons_tail (by simpa using hx),List.filter_cons_of_pos (by simp [hx]),s7 h.2]
theorem X6{size:Nat}{c:Int}{st:List Int}(h:st.Nodup):dS size c (st.take size).reverse=((qV c st).take size).reverse:=by
 have hn:(st.take size).Nodup:=h.sublist (List.take_sublist _ _)
 have hr:(st.take size).reverse.Nodup:=List.pairwise_reverse.2 (hn.imp (fun h=>Ne.symm h))
 unfold dS
 rw [s7 hr,List.filter_reverse]
 have hc:((st.take size).filter (fun x=> !decide (x=c))).reverse++[c]=(c::(st.take size).filter (fun x=> !decide (x=c))).reverse:=by simp
 simp only [hc]
 have hl:((st.take size).filter (fun x=> !decide (x=c))).length≤size:=Nat.le_trans (List.length_filter_le _ _) (by rw [List.length_take];omega)
 have h1:(if size<(c::(st.take size).filter (fun x=> !decide (x=c))).reverse.length then(c::(st.take size).filter (fun x=> !decide (x=c))).reverse.drop 1 else(c::(st.take size).filter (fun x=> !decide (x=c))).reverse)=((c::(st.take size).filter (fun x=> !decide (x=c))).take size).reverse:=by
  split
  ·rename_i hs
   rw [List.length_reverse,List.length_cons] at hs
   rw [List.drop_reverse,List.length_cons,show((st.take size).filter (fun x=> !decide (x=c))).length+1-1=size by omega]
  ·rename_i hs
   rw [List.length_reverse] at hs
   rw [List.take_of_length_le (l:=c::(st.take size).filter (fun x=> !decide (x=c))) (by omega)]
 rw [h1]
 congr 1
 unfold qV
 cases size with
 |zero=>rfl
 |succ n=>
  rw [List.take_succ_cons,List.take_succ_cons]
  congr 1
  have hsp:st.filter (fun x=> !decide (x=c))=(st.take (n+1)).filter (fun x=> !decide (x=c))++(st.drop (n+1)).filter (fun x=> !decide (x=c)):=by
   rw [←List.filter_append,List.take_append_drop]
  rw [hsp]
  by_cases hlen:n+1≤st.length
  ·have:=yX (c:=c) hn
   rw [List.length_take,Nat.min_eq_left hlen] at this
   rw [List.take_append_of_le_length (by omega)]
  ·rw [List.drop_of_length_le (by omega)]
   simp
theorem sL{c:Int}{size:Nat}: ∀{st:List Int},c∈st.take size↔c∈st∧st.idxOf c<size
 | []=>by simp
 |x::st=>by
  cases size with
  |zero=>simp
  |succ n=>
   rw [List.take_succ_cons,List.mem_cons,List.mem_cons,sL (st:=st)]
   by_cases hx:x=c
   ·subst hx
    simp
   ·rw [List.idxOf_cons,show(x==c)=false by simpa using hx,cond_false]
    have hx': ¬c=x:=fun e=>hx e.symm
    simp [hx']
theorem P0{size:Nat}: ∀{t st:List Int},st.Nodup→bU size (st.take size).reverse t=(jN st t).countP (fun d=>decide (d<0∨(size:Int)≤d))
 | [],_,_=>rfl
 |c::t,st,h=>by
  rw [bU,jN,List.countP_cons,X6 h,P0 (rW h),Nat.add_comm]
  congr 1
  have hm:(c∈(st.take size).reverse)↔(c∈st∧st.idxOf c<size):=by rw [List.mem_reverse];exact sL
  by_cases hc:c∈st
  ·unfold zZ
   rw [if_pos hc]
   by_cases hi:st.idxOf c<size
   ·rw [if_pos (hm.2 ⟨hc,hi⟩),if_neg (by simp;omega)]
   ·rw [if_neg (fun e=>hi (hm.1 e).2),if_pos (by simp;omega)]
  ·unfold zZ
   rw [if_neg hc,if_neg (fun e=>hc (hm.1 e).1),if_pos (by simp)]
theorem aBu(size:Nat)(t:List Int):bU size [] t=(jN [] t).countP (fun d=>decide (d<0∨(size:Int)≤d)):=by
 have:=P0 (size:=size) (t:=t) (st:=[]) List.nodup_nil
 simpa using this
theorem vA: ∀(t:List Int),bU 0 [] t=t.length
 | []=>rfl
 |c::t=>by
  have h0:dS 0 c []=[]:=by simp [dS]
  rw [bU,h0,vA t]
  simp [Nat.add_comm]
theorem C9(size:Nat): ∀(t held:List Int),bU size held t≤t.length
 | [],_=>Nat.le_refl _
 |c::t,held=>by
  rw [bU]
  have:=C9 size t (dS size c held)
  simp only [List.length_cons]
  split<;>omega
theorem P1{size:Nat}{c x:Int}{held:List Int}(h:x∈dS size c held):x=c∨x∈held:=by
 have hh:x∈held.erase c++[c]:=by
  unfold dS at h
  dsimp only at h
  split at h
  ·exact List.mem_of_mem_drop h
  ·exact h
 rcases List.mem_append.1 hh with h|h
 ·exact .inr (List.mem_of_mem_erase h)
 ·exact .inl (by simpa using h)
theorem xY(size:Nat): ∀(t seen held:List Int),(∀x,x∈held→x∈seen)→newCells seen t≤bU size held t
 | [],_,_,_=>Nat.le_refl _
 |c::t,seen,held,h=>by
  rw [newCells,bU]
  have hi:=xY size t (c::seen) (dS size c held) (fun x hx=>by
   rcases P1 hx with e|e
   ·exact List.mem_cons.2 (.inl e)
   ·exact List.mem_cons_of_mem _ (h x e))
  have hd:(if c∈seen then 0 else 1)≤(if c∈held then 0 else 1):=by
   by_cases hh:c∈held
   ·rw [if_pos (h c hh),if_pos hh];exact Nat.le_refl 0
   ·rw [if_neg hh];split<;>omega
  omega
theorem zY{c:Int}{st:List Int}(h: ¬c∈st):zZ c (st++[c])=(st.length:Int):=by
 unfold zZ
 rw [if_pos (by simp),List.idxOf_append,if_neg h,List.idxOf_cons_self]
 omega
theorem H1{c y:Int}{st:List Int}(h:y≠c):zZ c (st++[y])=zZ c st:=by
 unfold zZ
 by_cases hc:c∈st
 ·rw [if_pos hc,if_pos (by simp [hc]),List.idxOf_append,if_pos hc]
 ·rw [if_neg hc,if_neg (by simp [hc];exact fun e=>h e.symm)]
theorem V8(c:Int)(st:List Int):(qV c st).length≤st.length+1:=by
 unfold qV
 have:=List.length_filter_le (fun x=> !decide (x=c)) st
 simp only [List.length_cons];omega
theorem W1{n:Nat}(hn:20000≤n){tr:List Int}(ht:tr.length≤600):Ev (d8 n tr) (fun r=>r=jN [] tr):=by
 unfold d8
 refine aG (fun h=>by omega) (fun _=> ?_)
 refine Ev.loop (fun x:List Int×List Int×Int=> ∃k:Nat,x.2.2=k∧k≤tr.length∧x.2.1.Nodup∧x.2.1.length≤k∧x.1.length=k∧x.1++jN x.2.1 (tr.drop k)=jN [] tr) (fun x=>tr.length-x.2.2.toNat) ?_ n _ ⟨0,rfl,by omega,List.nodup_nil,Nat.le_refl _,rfl,rfl⟩ (by dsimp only;omega)
 rintro again ⟨o,st,kz⟩ ⟨k,hk0,hk,hnd,hl,hol,he⟩ hr
 dsimp only at hk0 hnd hl hol he⊢
 subst hk0
 refine aG (fun hlt=> ?_) (fun hge=>Ev.some ?_)
 rotate_left
 ·rw [List.drop_of_length_le (by omega),jN,List.append_nil] at he
  exact he
 have hlt:k<tr.length:=by omega
 have ec:=List.getElem?_eq_getElem hlt
 generalize tr[k]=c at ec
 refine Ev.loop (fun x:List Int×Int×Int=> ∃j:Nat,x.2.2=j∧j≤st.length∧x.1=(st.take j).filter (fun y=> !decide (y=c))∧x.2.1=zZ c (st.take j)) (fun x=>st.length-x.2.2.toNat) ?_ n _ ⟨0,rfl,by omega,rfl,rfl⟩ (by dsimp only;omega)
 rintro again2 ⟨r,at_,jz⟩ ⟨j,hj0,hj,hr1,hr2⟩ hr'
 dsimp only at hj0 hr1 hr2⊢
 subst hj0
 refine aG (fun hlt2=> ?_) (fun hge2=> ?_)
 ·have hlt2:j<st.length:=by omega
  have ey:=List.getElem?_eq_getElem hlt2
  generalize hy:st[j]=y at ey
  have hs:st.take (j+1)=st.take j++[y]:=by rw [List.take_add_one,ey];rfl
  have hnd2:(st.take j++[y]).Nodup:=by rw [←hs];exact hnd.sublist (List.take_sublist _ _)
  have hrl:r.length≤600:=by
   rw [hr1];exact Nat.le_trans (List.length_filter_le _ _) (by rw [List.length_take];omega)
  refine Ev.jn (fun z:List Int×Int=>z.1=(st.take (j+1)).filter (fun y=> !decide (y=c))∧z.2=zZ c (st.take (j+1))) (fun j11 hj11=> ?_) (fun z hz=> ?_)
  ·refine aA (aP ey) (aA (aP ec) (aG (fun heq=> ?_) (fun hne=> ?_)))
   ·subst heq
    refine hj11 _ ⟨?_,?_⟩
    ·rw [hs,List.filter_append,←hr1];simp
    ·rw [hs]
     have hni: ¬y∈st.take j:=fun hm=>by
      have:=(List.nodup_append.1 hnd2).2.2 y hm y (by simp)
      exact this rfl
     rw [zY hni,List.length_take,Nat.min_eq_left hj]
   ·refine aA (bL (by simp only [List.length_cons,List.length_nil];omega)) (hj11 _ ⟨?_,?_⟩)
    ·rw [hs,List.filter_append,←hr1];simp [hne]
    ·rw [hs,H1 hne];exact hr2
  ·rw [aJ (by omega)]
   exact hr' _ ⟨j+1,by dsimp only;omega,by omega,hz.1,hz.2⟩ (by dsimp only;omega)
 ·have hj:j=st.length:=by omega
  subst hj
  rw [List.take_length] at hr1 hr2
  subst hr1;subst hr2
  have hfl:=List.length_filter_le (fun y=> !decide (y=c)) st
  refine aA (bL (by simp only [List.length_cons,List.length_nil];omega)) (aA (aP ec) (aA (bL (by simp only [List.length_cons,List.length_nil];omega)) ?_))
  rw [aJ (by omega)]
  have hd:tr.drop k=c::tr.drop (k+1):=by
   rw [List.drop_eq_getElem_cons hlt]
   congr 1
   rw [List.getElem?_eq_getElem hlt] at ec
   exact Option.some.inj ec
  rw [hd,jN] at he
  refine hr _ ⟨k+1,by dsimp only;omega,by omega,rW hnd,Nat.le_trans (V8 c st) (by omega),by dsimp only;rw [List.length_append];simp only [List.length_cons,List.length_nil];omega,?_⟩ (by dsimp only;omega)
  dsimp only
  rw [List.append_assoc]
  exact he
theorem w6: ∀(t st:List Int),(jN st t).length=t.length
 | [],_=>rfl
 |c::t,st=>by rw [jN,List.length_cons,List.length_cons,w6 t]
theorem aCt{n:Nat}(hn:20000≤n){tr:List Int}{size:Int}(ht:tr.length≤600)(h0:0≤size)(h4:size≤40):eH n tr size=some (bU size.toNat [] tr:Int):=by
 refine Ev.eq ?_
 unfold eH
 have hfit:iL n tr size=some true:=by
  unfold iL
  simp only [jn]
  rw [decide_eq_true (show(tr.length:Int)≤600 by omega),decide_eq_true h0,decide_eq_true h4];rfl
 refine aA hfit ?_
 refine aH (W1 hn ht) ?_
 rintro _ rfl
 have hlen:=w6 tr []
 rw [aBu]
 generalize hD:jN [] tr=D at hlen⊢
 refine Ev.loop (fun x:Int×Int=> ∃k:Nat,x.2=k∧k≤D.length∧x.1=((D.take k).countP (fun d=>decide (d<0∨(size.toNat:Int)≤d)):Nat)) (fun x=>D.length-x.2.toNat) ?_ n _ ⟨0,rfl,by omega,rfl⟩ (by dsimp only;omega)
 rintro again ⟨m,kz⟩ ⟨k,hk0,hk,hm⟩ hr
 dsimp only at hk0 hm⊢
 subst hk0
 refine aG (fun hlt=> ?_) (fun hge=>Ev.some ?_)
 rotate_left
 ·rw [hm,List.take_of_length_le (by omega)]
 have hlt:k<D.length:=by omega
 have ed:=List.getElem?_eq_getElem hlt
 generalize D[k]=d at ed
 have hs:D.take (k+1)=D.take k++[d]:=by rw [List.take_add_one,ed];rfl
 have hcl:=List.countP_le_length (p:=fun d=>decide (d<0∨(size.toNat:Int)≤d)) (l:=D.take k)
 rw [List.length_take] at hcl
 refine Ev.jn (fun z:Int=>z=((D.take (k+1)).countP (fun d=>decide (d<0∨(size.toNat:Int)≤d)):Nat)) (fun j6 hj6=> ?_) (fun z hz=> ?_)
 ·refine Ev.jn (fun b:Bool=>b=decide (d<0∨(size.toNat:Int)≤d)) (fun j7 hj7=> ?_) (fun b hb=> ?_)
  ·refine aA (aP ed) (aG (fun hneg=>hj7 _ ?_) (fun hpos=>hj7 _ ?_))
   ·rw [decide_eq_true (Or.inl hneg)]
   ·rw [decide_eq_decide];omega
  ·subst hb
   rw [hs,List.countP_append,List.countP_singleton] at hj6
   refine Ev.cond (fun ht=>hj6 _ ?_) (fun hf=>hj6 _ ?_)
   ·rw [aJ (by omega),hm,if_pos ht];omega
   ·rw [hm,if_neg (by rw [hf];exact Bool.false_ne_true)];omega
 ·rw [aJ (by omega)]
  exact hr _ ⟨k+1,by dsimp only;omega,by omega,hz⟩ (by dsimp only;omega)
theorem aCs{n:Nat}{tr:List Int}{size:Int}(h: ¬(tr.length≤600∧0≤size∧size≤40)):eH n tr size=some (-1):=by
 have hfit:iL n tr size=some false:=by
  unfold iL
  simp only [jn]
  by_cases a:(tr.length:Int)≤600
  ·by_cases b:0≤size
   ·rw [decide_eq_true a,decide_eq_true b,decide_eq_false (show¬size≤40 by omega)];rfl
   ·rw [decide_eq_true a,decide_eq_false b];rfl
  ·rw [decide_eq_false a];rfl
 unfold eH
 rw [hfit];rfl
def wC(p:Prog)(x:Inst):List Int:=rc p x++[(wc p x:Int)]
def lM(p:Prog):List Int:=(insts p.parts).flatMap (wC p)
theorem U0{l:List Inst}{f:Inst→List Int}{k:Nat}{x:Inst}(h:l[k]? =some x):(l.take (k+1)).flatMap f=(l.take k).flatMap f++f x:=by
 rw [List.take_add_one,h,List.flatMap_append]
 simp
theorem aBd{f:Inst→List Int}: ∀{l:List Inst},(∀x∈l,(f x).length≤13)→(l.flatMap f).length≤13*l.length
 | [],_=>by simp
 |x::l,h=>by
  have h1:=h x List.mem_cons_self
  have h2:=aBd (l:=l) (fun y hy=>h y (List.mem_cons_of_mem _ hy))
  rw [List.flatMap_cons,List.length_append,List.length_cons];omega
theorem aDF{p:Prog}(hv:cR p=true){x:Inst}(hx:x∈insts p.parts):(wC p x).length≤13:=by
 have:=(inst_c hv (insts_mem hx)).2.2.1
 unfold wC
 rw [List.length_append,List.length_singleton];omega
theorem aES(n:Nat)(s:List Int):lF n s=some s:=by
 unfold lF
 rw [w4 (by omega) (by omega) (by omega)]
 simp
theorem D6{n:Nat}(hn:20000≤n){p:Prog}(hp:SmP p)(hv:cR p=true):dJ n p=some ((lM p).take 600):=by
 have hil:=(l5 hv).2.2.2.2
 refine Ev.eq ?_
 unfold dJ
 refine aA (Y2 (by omega) hp) ?_
 rw [if_pos hv]
 simp only [Option.isSome_some,Option.getD_some,cond_true,Bool.not_true,cond_false]
 have htl:(trc p).list=insts p.parts:=rfl
 have htr:(trc p).reads=(insts p.parts).map (rc p):=rfl
 have htw:(trc p).writes=(insts p.parts).map (fun x=>(wc p x:Int)):=rfl
 simp only [htl,htr,htw]
 refine Ev.loop (fun z:List Int×Int=> ∃k:Nat,z.2=k∧k≤(insts p.parts).length∧z.1=((insts p.parts).take k).flatMap (wC p)) (fun z=>(insts p.parts).length-z.2.toNat) ?_ n _ ⟨0,rfl,by omega,rfl⟩ (by dsimp only;omega)
 rintro again ⟨a,z⟩ ⟨k,hz,hk,ha⟩ hr
 dsimp only at hz ha⊢
 subst hz
 have hal:a.length≤1560:=by
  rw [ha]
  have:=aBd (f:=wC p) (l:=(insts p.parts).take k) (fun x hx=>aDF hv (List.mem_of_mem_take hx))
  rw [List.length_take] at this;omega
 refine aG (fun hlt=> ?_) (fun hge=> ?_)
 ·obtain⟨x,hg⟩: ∃x,(insts p.parts)[k]? =some x:=⟨_,List.getElem?_eq_getElem (show k<(insts p.parts).length by omega)⟩
  have h12:=(inst_c hv (insts_mem (List.mem_of_getElem? hg))).2.2.1
  refine aA (aP (I1 hg)) (aA (bL (by omega)) (aA (aP (I1 hg)) (aA (bL (by rw [List.length_append,List.length_singleton];omega)) ?_)))
  rw [aJ (by omega)]
  refine hr _ ⟨k+1,by dsimp only;omega,by omega,?_⟩ (by dsimp only;omega)
  dsimp only
  rw [U0 hg,←ha,List.append_assoc];rfl
 ·have e:k=(insts p.parts).length:=by omega
  subst e
  rw [List.take_length] at ha
  refine aA (w4 (by omega) (by omega) (by omega)) (aA (aES n _) (Ev.some ?_))
  rw [ha,show(0:Int).toNat=0 from rfl,List.drop_zero]
  show(lM p).take _=_
  have hl:a.length=(lM p).length:=by rw [ha];rfl
  by_cases h:(lM p).length≤600
  ·rw [List.take_of_length_le h,List.take_of_length_le]
   show(lM p).length≤(min ((lM p).length:Int) 600).toNat
   omega
  ·congr 1
   show(min ((lM p).length:Int) 600).toNat=600
   omega
theorem aBn{n:Nat}(hn:20000≤n){p:Prog}(hV:cE n p=some true)(hv:cR p=true):d9 n p=some ((lM p).take 600):=by
 have hil:=(l5 hv).2.2.2.2
 refine Ev.eq ?_
 unfold d9
 refine aA hV ?_
 rw [Bool.not_true,cond_false]
 refine aA (aBk (by omega) hv) ?_
 have hul:(N4 p).length=(insts p.parts).length:=by unfold N4;rw [List.length_map]
 refine Ev.loop (fun z:List Int×Int=> ∃k:Nat,z.2=k∧k≤(insts p.parts).length∧z.1=((insts p.parts).take k).flatMap (wC p)∧z.1.length≤600) (fun z=>(insts p.parts).length-z.2.toNat) ?_ n _ ⟨0,rfl,by omega,rfl,by simp⟩ (by dsimp only;omega)
 rintro again ⟨a,z⟩ ⟨k,hz,hk,ha,hal⟩ hr
 dsimp only at hz ha hal⊢
 subst hz
 refine aG (fun hlt=> ?_) (fun hge=>Ev.some ?_)
 ·obtain⟨x,hg⟩: ∃x,(insts p.parts)[k]? =some x:=⟨_,List.getElem?_eq_getElem (show k<(insts p.parts).length by omega)⟩
  have h12:=(inst_c hv (insts_mem (List.mem_of_getElem? hg))).2.2.1
  have hu:(N4 p)[k]? =some (⟨rc p x,(wc p x:Int)⟩:L6Use):=I1 hg
  refine aA (aP hu) (aA (bL (by dsimp only;omega)) (aA (bL (by rw [List.length_append,List.length_singleton];dsimp only;omega)) ?_))
  dsimp only
  have hsn:a++rc p x++[(wc p x:Int)]=((insts p.parts).take (k+1)).flatMap (wC p):=by
   rw [U0 hg,←ha,List.append_assoc];rfl
  rw [hsn]
  have hb:(((insts p.parts).take (k+1)).flatMap (wC p)).length≤1000:=by
   rw [←hsn,List.length_append,List.length_append,List.length_singleton];omega
  refine aG (fun hbig=> ?_) (fun hsm=> ?_)
  ·refine aA (w4 (by omega) (by omega) (by omega)) (aA (bL (by rw [List.length_drop,List.length_take];simp only [List.length_nil];omega)) (Ev.some ?_))
   rw [List.nil_append,show(0:Int).toNat=0 from rfl,List.drop_zero,show(600:Int).toNat=600 from rfl]
   have hsp:lM p=((insts p.parts).take (k+1)).flatMap (wC p)++((insts p.parts).drop (k+1)).flatMap (wC p):=by
    unfold lM
    rw [←List.flatMap_append,List.take_append_drop]
   rw [hsp,List.take_append_of_le_length (by omega)]
  ·rw [aJ (by omega)]
   exact hr _ ⟨k+1,by dsimp only;omega,by omega,rfl,by dsimp only;omega⟩ (by dsimp only;omega)
 ·have e:k=(insts p.parts).length:=by omega
  subst e
  rw [List.take_length] at ha
  subst ha
  rw [show(lM p)=(insts p.parts).flatMap (wC p) from rfl,List.take_of_length_le hal]
def z8(p:Prog)(size:Int):Int:=if cR p=true then(if 0≤size∧size≤40 then(bU size.toNat [] ((lM p).take 600):Int) else-1) else-1
theorem vC{n:Nat}(hn:20000≤n){p:Prog}(hp:SmP p)(size:Int):dO n p size=some (z8 p size):=by
 unfold dO z8
 rw [lW (by omega) hp]
 by_cases hv:cR p=true
 ·rw [if_pos hv,hv]
  show Option.bind (dJ n p) _=_
  rw [D6 hn hp hv]
  show Option.bind (m_lru _ size) _=_
  have hl:((lM p).take 600).length≤600:=by rw [List.length_take];omega
  unfold m_lru
  by_cases h:0≤size∧size≤40
  ·rw [if_pos ⟨hl,h⟩,if_pos h];rfl
  ·rw [if_neg (fun e=>h e.2),if_neg h];rfl
 ·rw [if_neg hv,Bool.eq_false_iff.2 hv];rfl
theorem O1{n:Nat}(hn:20000≤n){p:Prog}(hp:SmP p)(size:Int):dN n p size=some (z8 p size):=by
 unfold dN z8
 have hV:=lR (n:=n) (by omega) hp
 rw [hV]
 by_cases hv:cR p=true
 ·rw [if_pos hv,hv]
  show Option.bind (d9 n p) _=_
  rw [aBn hn (by rw [hV,hv]) hv]
  show Option.bind (eH n _ size) _=_
  have hl:((lM p).take 600).length≤600:=by rw [List.length_take];omega
  by_cases h:0≤size∧size≤40
  ·rw [aCt hn hl h.1 h.2,if_pos h];rfl
  ·rw [aCs (fun e=>h e.2),if_neg h];rfl
 ·rw [if_neg hv,Bool.eq_false_iff.2 hv];rfl
theorem aAb(code:List UInt8):Ev (cY N code) (fun x=>BG 1000 x.1):=by
 have hN:N=100000:=rfl
 unfold cY
 refine aH (aEx code) (fun r hr=>aH (X7 hr (by omega)) (fun x hx=>aH (aEC (by omega) hx.2 (by omega) hx.1) (fun y hy=> ?_)))
 have hz:Ev (mM N y.2) (fun _=>True):=by
  unfold mM
  exact aH (aCD hy.2 (by omega) (by simp)) (fun z _=>Ev.some trivial)
 exact aH hz (fun z _=>Ev.some (hy.1.mono (show 30≤1000 by omega)))
end Go.Lift
