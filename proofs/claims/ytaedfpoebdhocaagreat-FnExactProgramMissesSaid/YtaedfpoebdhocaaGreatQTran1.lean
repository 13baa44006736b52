/- Least recently used: what stack distances say of misses. Plain lists. -/
import Derived.Test.YtaedfpoebdhocaaGreatQLiftLib
import Derived.Test.YtaedfpoebdhocaaGreatQRun1
set_option linter.unusedVariables false
set_option maxRecDepth 110000000
namespace Go.Lift
open Go
def yV(c:Int)(st:List Int):Int:=if c∈st then(st.idxOf c:Int) else-1
def oZ(c:Int)(st:List Int):List Int:=c::st.filter fun x=> !decide (x=c)
def iF:List Int→List Int→List Int
 |_,[]=>[]
 |st,c::t=>yV c st::iF (oZ c st) t
theorem qC{c:Int}{st:List Int}(h:st.Nodup):(oZ c st).Nodup:=by unfold oZ;rw [List.nodup_cons];exact⟨fun hm=>by simp at hm,h.filter _⟩
theorem xL{c:Int}: ∀{l:List Int},l.Nodup→l.length≤(l.filter fun x=> !decide (x=c)).length+1
 | [],_=>by simp
 |x::l,h=>by
  rw [List.nodup_cons] at h;by_cases hx:x=c
  ·subst hx;rw [List.filter_cons_of_neg (by simp),List.filter_eq_self.2 fun y hy=>by simp;intro e;subst e;exact h.1 hy];simp
  rw [List.filter_cons_of_pos (by simp [hx])]
  have:=xL (c:=c) h.2;simp only [List.length_cons];omega
theorem rC{c:Int}: ∀{l:List Int},l.Nodup→l.erase c=l.filter (fun x=> !decide (x=c))
 | [],_=>rfl
 |x::l,h=>by
  rw [List.nodup_cons] at h;by_cases hx:x=c
  ·subst hx;rw [List.erase_cons_head,List.filter_cons_of_neg (by simp),List.filter_eq_self.2 fun y hy=>by simp;intro e;subst e;exact h.1 hy]
  rw [List.erase_cons_tail (by simpa using hx),List.filter_cons_of_pos (by simp [hx]),rC h.2]
theorem W7{size:Nat}{c:Int}{st:List Int}(h:st.Nodup):f5 size c (st.take size).reverse=((oZ c st).take size).reverse:=by
 have hn:(st.take size).Nodup:=h.sublist (List.take_sublist _ _);have hr:(st.take size).reverse.Nodup:=List.pairwise_reverse.2 (hn.imp fun h=>vBA h);unfold f5;rw [rC hr,List.filter_reverse];have hc:((st.take size).filter fun x=> !decide (x=c)).reverse++[c]=(c::(st.take size).filter fun x=> !decide (x=c)).reverse:=by simp
 simp only [hc];have hl:((st.take size).filter fun x=> !decide (x=c)).length≤size:=yL (vBv _ _) (by rw [nQ];omega);have h1:(if size<(c::(st.take size).filter fun x=> !decide (x=c)).reverse.length then(c::(st.take size).filter fun x=> !decide (x=c)).reverse.drop 1 else(c::(st.take size).filter fun x=> !decide (x=c)).reverse)=((c::(st.take size).filter fun x=> !decide (x=c)).take size).reverse:=by
  split
  ·rename_i hs;rw [List.length_reverse,vBq] at hs;rw [List.drop_reverse,vBq,show((st.take size).filter fun x=> !decide (x=c)).length+1-1=size by omega]
  rename_i hs;rw [List.length_reverse] at hs;rw [vAW (l:=c::(st.take size).filter fun x=> !decide (x=c)) (by omega)]
 rw [h1];congr 1;unfold oZ;cases size with
 |zero=>rfl
 |succ n=>
  rw [List.take_succ_cons,List.take_succ_cons];congr 1;have hsp:st.filter (fun x=> !decide (x=c))=(st.take (n+1)).filter (fun x=> !decide (x=c))++(st.drop (n+1)).filter (fun x=> !decide (x=c)):=by
   rw [←List.filter_append,vBi]
  rw [hsp];by_cases hlen:n+1≤st.length
  ·have:=xL (c:=c) hn;rw [nQ,vBz hlen] at this;rw [List.take_append_of_le_length (by omega)]
  rw [List.drop_of_length_le (by omega)];simp
theorem qU{c:Int}{size:Nat}: ∀{st:List Int},c∈st.take size↔c∈st∧st.idxOf c<size
 | []=>by simp
 |x::st=>by
  cases size with
  |zero=>simp
  |succ n=>
   rw [List.take_succ_cons,lU,lU,qU (st:=st)];by_cases hx:x=c
   ·subst hx;simp
   rw [List.idxOf_cons,show(x==c)=false by simpa using hx,cond_false];have hx': ¬c=x:=fun e=>hx e.symm;simp [hx']
theorem N5{size:Nat}: ∀{t st:List Int},st.Nodup→bW size (st.take size).reverse t=(iF st t).countP (fun d=>decide (d<0∨(size:Int)≤d))
 | [],_,_=>rfl
 |c::t,st,h=>by
  rw [bW,iF,List.countP_cons,W7 h,N5 (qC h),Nat.add_comm];congr 1;have hm:(c∈(st.take size).reverse)↔(c∈st∧st.idxOf c<size):=by rw [List.mem_reverse];exact qU
  by_cases hc:c∈st
  ·unfold yV;rw [if_pos hc];by_cases hi:st.idxOf c<size
   ·rw [if_pos (hm.2 ⟨hc,hi⟩),if_neg (by simp;omega)]
   rw [if_neg fun e=>hi (hm.1 e).2,if_pos (by simp;omega)]
  unfold yV;rw [if_neg hc,if_neg fun e=>hc (hm.1 e).1,if_pos (by simp)]
theorem aBA(size:Nat)(t:List Int):bW size [] t=(iF [] t).countP (fun d=>decide (d<0∨(size:Int)≤d)):=by have:=N5 (size:=size) (t:=t) (st:=[]) List.nodup_nil;simpa using this
theorem yU{c:Int}{st:List Int}(h: ¬c∈st):yV c (st++[c])=(st.length:Int):=by unfold yV;rw [if_pos (by simp),List.idxOf_append,if_neg h,List.idxOf_cons_self];omega
theorem E2{c y:Int}{st:List Int}(h:y≠c):yV c (st++[y])=yV c st:=by
 unfold yV;by_cases hc:c∈st
 ·rw [if_pos hc,if_pos (by simp [hc]),List.idxOf_append,if_pos hc]
 rw [if_neg hc,if_neg (by simp [hc];exact fun e=>h e.symm)]
theorem V2(c:Int)(st:List Int):(oZ c st).length≤st.length+1:=by
 unfold oZ
 have:=vBv (fun x=> !decide (x=c)) st;simp only [List.length_cons];omega
theorem V4{n:Nat}(hn:22000000≤n){tr:List Int}(ht:tr.length≤600):Ev (eL n tr) (fun r=>r=iF [] tr):=by
 unfold eL;refine aF (fun h=>by omega) fun _=>?_;refine Ev.loop (fun x:List Int×List Int×Int=> ∃k:Nat,x.2.2=k∧k≤tr.length∧x.2.1.Nodup∧x.2.1.length≤k∧x.1.length=k∧x.1++iF x.2.1 (tr.drop k)=iF [] tr) (fun x=>tr.length-x.2.2.toNat) ?_ n _ ⟨0,rfl,by omega,List.nodup_nil,jD _,rfl,rfl⟩ (by dsimp only;omega);rintro again ⟨o,st,kz⟩ ⟨k,hk0,hk,hnd,hl,hol,he⟩ hr;dsimp only at hk0 hnd hl hol he⊢;subst hk0;refine aF (fun hlt=>?_) fun hge=>Ev.some ?_;rotate_left
 ·rw [List.drop_of_length_le (by omega),iF,List.append_nil] at he;exact he
 have hlt:k<tr.length:=by omega
 have ec:=cE hlt;generalize tr[k]=c at ec;refine Ev.loop (fun x:List Int×Int×Int=> ∃j:Nat,x.2.2=j∧j≤st.length∧x.1=(st.take j).filter (fun y=> !decide (y=c))∧x.2.1=yV c (st.take j)) (fun x=>st.length-x.2.2.toNat) ?_ n _ ⟨0,rfl,by omega,rfl,rfl⟩ (by dsimp only;omega);rintro again2 ⟨r,at_,jz⟩ ⟨j,hj0,hj,hr1,hr2⟩ hr';dsimp only at hj0 hr1 hr2⊢;subst hj0;refine aF (fun hlt2=>?_) fun hge2=>?_
 ·have hlt2:j<st.length:=by omega
  have ey:=cE hlt2;generalize hy:st[j]=y at ey;have hs:st.take (j+1)=st.take j++[y]:=by rw [K1,ey];rfl
  have hnd2:(st.take j++[y]).Nodup:=by rw [←hs];exact hnd.sublist (List.take_sublist _ _)
  have hrl:r.length≤600:=by
   rw [hr1];exact yL (vBv _ _) (by rw [nQ];omega)
  refine Ev.jn (fun z:List Int×Int=>z.1=(st.take (j+1)).filter (fun y=> !decide (y=c))∧z.2=yV c (st.take (j+1))) (fun j11 hj11=>?_) fun z hz=>?_
  ·refine aA (aI ey) (aA (aI ec) (aF (fun heq=>?_) fun hne=>?_))
   ·subst heq;refine hj11 _ ⟨?_,?_⟩
    ·rw [hs,List.filter_append,←hr1];simp
    rw [hs];have hni: ¬y∈st.take j:=fun hm=>by
     have:=(List.nodup_append.1 hnd2).2.2 y hm y (by simp);exact this rfl
    rw [yU hni,nQ,vBz hj]
   refine aA (cG (by simp only [List.length_cons,List.length_nil];omega)) (hj11 _ ⟨?_,?_⟩)
   ·rw [hs,List.filter_append,←hr1];simp [hne]
   rw [hs,E2 hne];exact hr2
  rw [aM (by omega)];exact hr' _ ⟨j+1,by dsimp only;omega,by omega,hz.1,hz.2⟩ (by dsimp only;omega)
 have hj:j=st.length:=by omega
 subst hj;rw [pM] at hr1 hr2;subst hr1;subst hr2;have hfl:=vBv (fun y=> !decide (y=c)) st;refine aA (cG (by simp only [List.length_cons,List.length_nil];omega)) (aA (aI ec) (aA (cG (by simp only [List.length_cons,List.length_nil];omega)) ?_));rw [aM (by omega)];have hd:tr.drop k=c::tr.drop (k+1):=by
  rw [List.drop_eq_getElem_cons hlt];congr 1;rw [cE hlt] at ec;exact Option.some.inj ec
 rw [hd,iF] at he;refine hr _ ⟨k+1,by dsimp only;omega,by omega,qC hnd,yL (V2 c st) (by omega),by dsimp only;rw [kK];simp only [List.length_cons,List.length_nil];omega,?_⟩ (by dsimp only;omega);dsimp only;rw [vAM];exact he
theorem wB: ∀(t st:List Int),(iF st t).length=t.length
 | [],_=>rfl
 |c::t,st=>by rw [iF,vBq,vBq,wB t]
theorem aCN{n:Nat}(hn:22000000≤n){tr:List Int}{size:Int}(ht:tr.length≤600)(h0:0≤size)(h4:size≤40):d9 n tr size=some (bW size.toNat [] tr:Int):=by
 refine Ev.eq ?_;unfold d9;have hfit:iV n tr size=some true:=by
  unfold iV;simp only [jn];rw [decide_eq_true (show(tr.length:Int)≤600 by omega),decide_eq_true h0,decide_eq_true h4];rfl
 refine aA hfit ?_;refine eJ (V4 hn ht) ?_;rintro _ rfl;have hlen:=wB tr [];rw [aBA];generalize hD:iF [] tr=D at hlen⊢;refine Ev.loop (fun x:Int×Int=> ∃k:Nat,x.2=k∧k≤D.length∧x.1=((D.take k).countP (fun d=>decide (d<0∨(size.toNat:Int)≤d)):Nat)) (fun x=>D.length-x.2.toNat) ?_ n _ ⟨0,rfl,by omega,rfl⟩ (by dsimp only;omega);rintro again ⟨m,kz⟩ ⟨k,hk0,hk,hm⟩ hr;dsimp only at hk0 hm⊢;subst hk0;refine aF (fun hlt=>?_) fun hge=>Ev.some ?_;rotate_left
 ·rw [hm,vAW (by omega)]
 have hlt:k<D.length:=by omega
 have ed:=cE hlt;generalize D[k]=d at ed;have hs:D.take (k+1)=D.take k++[d]:=by rw [K1,ed];rfl
 have hcl:=List.countP_le_length (p:=fun d=>decide (d<0∨(size.toNat:Int)≤d)) (l:=D.take k);rw [nQ] at hcl;refine Ev.jn (fun z:Int=>z=((D.take (k+1)).countP (fun d=>decide (d<0∨(size.toNat:Int)≤d)):Nat)) (fun j6 hj6=>?_) fun z hz=>?_
 ·refine Ev.jn (fun b:Bool=>b=decide (d<0∨(size.toNat:Int)≤d)) (fun j7 hj7=>?_) fun b hb=>?_
  ·refine aA (aI ed) (aF (fun hneg=>hj7 _ ?_) fun hpos=>hj7 _ ?_)
   ·rw [decide_eq_true (Or.inl hneg)]
   rw [decide_eq_decide];omega
  subst hb;rw [hs,List.countP_append,List.countP_singleton] at hj6;refine Ev.cond (fun ht=>hj6 _ ?_) fun hf=>hj6 _ ?_
  ·rw [aM (by omega),hm,if_pos ht];omega
  rw [hm,if_neg (by rw [hf];exact Bool.false_ne_true)];omega
 rw [aM (by omega)];exact hr _ ⟨k+1,by dsimp only;omega,by omega,hz⟩ (by dsimp only;omega)
theorem aCM{n:Nat}{tr:List Int}{size:Int}(h: ¬(tr.length≤600∧0≤size∧size≤40)):d9 n tr size=some (-1):=by
 have hfit:iV n tr size=some false:=by
  unfold iV;simp only [jn];by_cases a:(tr.length:Int)≤600
  ·by_cases b:0≤size
   ·rw [decide_eq_true a,decide_eq_true b,decide_eq_false (show¬size≤40 by omega)];rfl
   rw [decide_eq_true a,decide_eq_false b];rfl
  rw [decide_eq_false a];rfl
 unfold d9;rw [hfit];rfl
def yI(p:Prog)(x:Inst):List Int:=rc p x++[(wc p x:Int)]
def r8(p:Prog):List Int:=(insts p.parts).flatMap (yI p)
theorem S1{l:List Inst}{f:Inst→List Int}{k:Nat}{x:Inst}(h:l[k]? =some x):(l.take (k+1)).flatMap f=(l.take k).flatMap f++f x:=by rw [K1,h,vAN];simp
theorem aBe{f:Inst→List Int}: ∀{l:List Inst},(∀x∈l,(f x).length≤13)→(l.flatMap f).length≤13*l.length
 | [],_=>by simp
 |x::l,h=>by have h1:=h x uV;have h2:=aBe (l:=l) fun y hy=>h y (pX _ hy);rw [vBw,kK,vBq];omega
theorem aD0{p:Prog}(hv:dD p=true){x:Inst}(hx:x∈insts p.parts):(yI p x).length≤13:=by have:=(inst_c hv (insts_mem hx)).2.2.1;unfold yI;rw [kK,vAP];omega
theorem aFr(n:Nat)(s:List Int):l6 n s=some s:=by unfold l6;rw [V1 (by omega) (by omega) (by omega)];simp
theorem aBJ{n:Nat}(hn:22000000≤n){p:Prog}(hp:SmP p)(hv:dD p=true):eE n p=some ((r8 p).take 600):=by
 have hil:=(l3 hv).2.2.2.2;refine Ev.eq ?_;unfold eE;refine aA (X4 (by omega) hp) ?_;rw [if_pos hv];simp only [Option.isSome_some,Option.getD_some,cond_true,Bool.not_true,cond_false];have htl:(trc p).list=insts p.parts:=rfl;have htr:(trc p).reads=(insts p.parts).map (rc p):=rfl;have htw:(trc p).writes=(insts p.parts).map (fun x=>(wc p x:Int)):=rfl;simp only [htl,htr,htw];refine Ev.loop (fun z:List Int×Int=> ∃k:Nat,z.2=k∧k≤(insts p.parts).length∧z.1=((insts p.parts).take k).flatMap (yI p)) (fun z=>(insts p.parts).length-z.2.toNat) ?_ n _ ⟨0,rfl,by omega,rfl⟩ (by dsimp only;omega);rintro again ⟨a,z⟩ ⟨k,hz,hk,ha⟩ hr;dsimp only at hz ha⊢;subst hz;have hal:a.length≤1560:=by
  rw [ha]
  have:=aBe (f:=yI p) (l:=(insts p.parts).take k) fun x hx=>aD0 hv (L6 hx);rw [nQ] at this;omega
 refine aF (fun hlt=>?_) fun hge=>?_
 ·obtain⟨x,hg⟩: ∃x,(insts p.parts)[k]? =some x:=⟨_,cE (show k<(insts p.parts).length by omega)⟩
  have h12:=(inst_c hv (insts_mem (cK hg))).2.2.1;refine aA (aI (F6 hg)) (aA (cG (by omega)) (aA (aI (F6 hg)) (aA (cG (by rw [kK,vAP];omega)) ?_)));rw [aM (by omega)];refine hr _ ⟨k+1,by dsimp only;omega,by omega,?_⟩ (by dsimp only;omega);dsimp only;rw [S1 hg,←ha,vAM];rfl
 have e:k=(insts p.parts).length:=by omega
 subst e;rw [pM] at ha;refine aA (V1 (by omega) (by omega) (by omega)) (aA (aFr n _) (Ev.some ?_));rw [ha,show(0:Int).toNat=0 from rfl,List.drop_zero];show(r8 p).take _=_;have hl:a.length=(r8 p).length:=by rw [ha];rfl
 by_cases h:(r8 p).length≤600
 ·rw [vAW h,vAW];show(r8 p).length≤(min ((r8 p).length:Int) 600).toNat;omega
 congr 1;show(min ((r8 p).length:Int) 600).toNat=600;omega
theorem aBs{n:Nat}(hn:22000000≤n){p:Prog}(hV:dH n p=some true)(hv:dD p=true):eA n p=some ((r8 p).take 600):=by
 have hil:=(l3 hv).2.2.2.2;refine Ev.eq ?_;unfold eA;refine aA hV ?_;rw [Bool.not_true,cond_false];refine aA (aBp (by omega) hv) ?_;have hul:(L7 p).length=(insts p.parts).length:=by unfold L7;rw [zP]
 refine Ev.loop (fun z:List Int×Int=> ∃k:Nat,z.2=k∧k≤(insts p.parts).length∧z.1=((insts p.parts).take k).flatMap (yI p)∧z.1.length≤600) (fun z=>(insts p.parts).length-z.2.toNat) ?_ n _ ⟨0,rfl,by omega,rfl,by simp⟩ (by dsimp only;omega);rintro again ⟨a,z⟩ ⟨k,hz,hk,ha,hal⟩ hr;dsimp only at hz ha hal⊢;subst hz;refine aF (fun hlt=>?_) fun hge=>Ev.some ?_
 ·obtain⟨x,hg⟩: ∃x,(insts p.parts)[k]? =some x:=⟨_,cE (show k<(insts p.parts).length by omega)⟩
  have h12:=(inst_c hv (insts_mem (cK hg))).2.2.1;have hu:(L7 p)[k]? =some (⟨rc p x,(wc p x:Int)⟩:L6Use):=F6 hg;refine aA (aI hu) (aA (cG (by dsimp only;omega)) (aA (cG (by rw [kK,vAP];dsimp only;omega)) ?_));dsimp only;have hsn:a++rc p x++[(wc p x:Int)]=((insts p.parts).take (k+1)).flatMap (yI p):=by
   rw [S1 hg,←ha,vAM];rfl
  rw [hsn];have hb:(((insts p.parts).take (k+1)).flatMap (yI p)).length≤1100000:=by
   rw [←hsn,kK,kK,vAP];omega
  refine aF (fun hbig=>?_) fun hsm=>?_
  ·refine aA (V1 (by omega) (by omega) (by omega)) (aA (cG (by rw [vBg,nQ];simp only [List.length_nil];omega)) (Ev.some ?_));rw [List.nil_append,show(0:Int).toNat=0 from rfl,List.drop_zero,show(600:Int).toNat=600 from rfl];have hsp:r8 p=((insts p.parts).take (k+1)).flatMap (yI p)++((insts p.parts).drop (k+1)).flatMap (yI p):=by
    unfold r8;rw [←vAN,vBi]
   rw [hsp,List.take_append_of_le_length (by omega)]
  rw [aM (by omega)];exact hr _ ⟨k+1,by dsimp only;omega,by omega,rfl,by dsimp only;omega⟩ (by dsimp only;omega)
 have e:k=(insts p.parts).length:=by omega
 subst e;rw [pM] at ha;subst ha;rw [show(r8 p)=(insts p.parts).flatMap (yI p) from rfl,vAW hal]
end Go.Lift
