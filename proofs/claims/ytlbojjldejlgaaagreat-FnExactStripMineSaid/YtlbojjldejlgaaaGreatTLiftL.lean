/- The rule for a region that draws its order. -/
import Derived.Test.YtlbojjldejlgaaaGreatTLiftK
namespace Go.Lift
open Go
theorem J8{α:Type}: ∀(ls:List (List (Nat×α))) (i:Nat) (L:Nat→Bool) (f:Nat→α),mN ls (i+1) L f=mN ls i (fun j=>L (j+1)) f
 | [],_,_,_=>rfl
 |l::ls,i,L,f=>by simp only [mN];exact J8 ls (i+1) L _
theorem zM(e:Eff)(es:List Eff)(L:Nat→Bool)(s:S):pC (e::es) 0 L s=pC es 0 (fun j=>L (j+1)) (bif L 0 then e.app s else s):=by unfold pC;simp only [List.map_cons,mN,Nat.zero_add,J8];cases L 0<;>rfl
theorem rB{K:Ctx}{ops:Array Oper}: ∀(l:List Oper) (es:List (Eff×Look)) (s:S) (Q:S→Prop),Draws K ops l es s Q→
  l.length=es.length∧Q (pC (es.map (·.1)) 0 (fun _=>true) s)∧
  ∀(i:Nat) o e r,l[i]? =some o→es[i]? =some (e,r)→ ∀s',r.same s' (pC (es.map (·.1)) 0 (fun j=>Nat.blt j i) s)→OpG K ops o s' (e.app s')
 | [],[],s,Q,h=>⟨rfl,h,fun i o e r hi=>by simp at hi⟩
 |o::os,(e,r)::es,s,Q,h=>by
  obtain⟨h1,h2⟩:=h;obtain⟨a1,a2,a3⟩:=rB os es _ Q h2;refine⟨by simp [a1],?_,?_⟩
  ·simp only [List.map_cons,zM,cond_true];exact a2
  intro i o' e' r' hi hj s' hs';cases i with
  |zero=>
   simp at hi hj;obtain⟨rfl,rfl⟩:=hj;subst hi;refine h1 s' ?_
   have:pC (List.map (·.1) ((e,r)::es)) 0 (fun j=>Nat.blt j 0) s=s:=by
    simp only [List.map_cons,zM];have hno: ∀{α:Type} (ls:List (List (Nat×α))) (i:Nat) (f:Nat→α),mN ls i (fun j=>Nat.blt (j+1) 0) f=f:=by
     intro α ls;induction ls with
     |nil=>intro _ _;rfl
     |cons l ls ih=>intro i f;simp only [mN];exact ih _ _
    show pC (es.map (·.1)) 0 (fun j=>Nat.blt (j+1) 0) s=s;unfold pC;simp only [hno]
   rw [this] at hs';exact hs'
  |succ i=>
   simp at hi hj;refine a3 i o' e' r' hi hj s' ?_;simp only [List.map_cons,zM] at hs';exact hs'
 | [],_::_,_,_,h=>h.elim
 |_::_,[],_,_,h=>h.elim
theorem zW{α:Type}{l:List (Nat×α)}{r:List Nat}{x:Nat}{v:α}(h:(x,v)∈l)(hr:x∈r):jW l r=true:=by unfold jW;rw [vBv];exact⟨(x,v),h,by rw [vBv];exact⟨x,hr,by simp⟩⟩
theorem tC{α β:Type}{l:List (Nat×α)}{m:List (Nat×β)}{x:Nat}{v:α}{v':β}(h:(x,v)∈l)(hr:(x,v')∈m):iP l m=true:=by unfold iP;rw [vBv];exact⟨(x,v),h,by rw [vBv];exact⟨(x,v'),hr,by simp⟩⟩
section
variable {K:Ctx} {l:List Oper} {es:List (Eff×Look)} {s:S}
theorem K7{α:Type}{n:Nat}{ops:Array Oper}(proj:Eff→List (Nat×α))(hp:pairsOk ops n 0 es=true){listed:Array Bool}{i:Nat}{e:Eff}{r:Look}(hi:es[i]? =some (e,r))(f:Nat→α)(x:Nat)
  (hcl: ∀e' r' v,(x,v)∈proj e'→oL e r e' r'=true)
  (hbef: ∀j,fX ops n j i=true→listed.getD j false=true) (haft: ∀j,j<es.length→fX ops n i j=true→listed.getD j true=false) (hun:listed.getD i true=false):
  mN ((es.map (·.1)).map proj) 0 (fun j=>listed.getD j true) f x=mN ((es.map (·.1)).map proj) 0 (fun j=>Nat.blt j i) f x:=by
 refine qN _ 0 _ _ f f x rfl ?_;intro j l' hl ⟨v,hv⟩;rw [l4];simp only [List.map_map,List.getElem?_map] at hl;cases hj:es[j]? with
 |none=>rw [hj] at hl;cases hl
 |some p=>
  obtain⟨e',r'⟩:=p;rw [hj] at hl;simp at hl;subst hl;have hjl:j<es.length:=(cC.1 hj).1;rcases Nat.lt_trichotomy j i with hlt|rfl|hgt
  ·have hb:=qR es 0 hp j i e' r' e r hj hi hlt (by rw [aEp];exact hcl e' r' v hv);rw [l4,l4] at hb;have h1:=hbef j hb;have h2:Nat.blt j i=true:=by simpa [Nat.blt_eq] using hlt
   rw [h2];rw [vAL] at h1⊢;cases hle:listed[j]? with
   |none=>rfl
   |some b=>rw [hle] at h1;simpa using h1
  ·rw [hun];symm;cases hb:Nat.blt j j with
   |false=>rfl
   |true=>simp [Nat.blt_eq] at hb
  have hb:=qR es 0 hp i j e r e' r' hi hj hgt (hcl e' r' v hv);rw [l4,l4] at hb;rw [haft j hjl hb];symm;cases hb2:Nat.blt j i with
  |false=>rfl
  |true=>simp [Nat.blt_eq] at hb2;omega
theorem A8{α:Type}{n:Nat}{ops:Array Oper}(proj:Eff→List (Nat×α))(hp:pairsOk ops n 0 es=true){listed:Array Bool}{i:Nat}{e:Eff}{r:Look}(hi:es[i]? =some (e,r))(f:Nat→α)(hlt:i<listed.size)
  (hcl: ∀x e' r' v v',(x,v)∈proj e'→(x,v')∈proj e→oL e r e' r'=true) (haft: ∀j,j<es.length→fX ops n i j=true→listed.getD j true=false) (hun:listed.getD i true=false):
  cF (mN ((es.map (·.1)).map proj) 0 (fun j=>listed.getD j true) f) (proj e)=mN ((es.map (·.1)).map proj) 0 (fun j=>(listed.setIfInBounds i true).getD j true) f:=by
 funext x;have hset: ∀j,j≠i→(listed.setIfInBounds i true).getD j true=listed.getD j true:=fun j hj=>by
  simp [Array.getD_eq_getD_getElem?,Array.getElem?_setIfInBounds_ne (Ne.symm hj)]
 have hsi:(listed.setIfInBounds i true).getD i true=true:=by
  simp [Array.getD_eq_getD_getElem?,hlt]
 have hil:((es.map (·.1)).map proj)[i]? =some (proj e):=by simp [hi]
 by_cases hx: ∃v,(x,v)∈proj e
 ·obtain⟨v0,hv0⟩:=hx;symm;refine Y0 _ 0 _ f x i (proj e) hil ⟨v0,hv0⟩ (by rw [l4];exact hsi) ?_ _;intro j l' hj hl ⟨v,hv⟩;rw [l4,hset j (by omega)];simp only [List.map_map,List.getElem?_map] at hl;cases hj2:es[j]? with
  |none=>rw [hj2] at hl;cases hl
  |some p=>
   obtain⟨e',r'⟩:=p;rw [hj2] at hl;simp at hl;subst hl;have hb:=qR es 0 hp i j e r e' r' hi hj2 hj (hcl x e' r' v v0 hv hv0);rw [l4,l4] at hb;exact haft j (cC.1 hj2).1 hb
 rw [fW _ _ _ fun v hv=>hx ⟨v,hv⟩];refine qN _ 0 _ _ f f x rfl ?_;intro j l' hl hv;rw [l4];by_cases hji:j=i
 ·subst hji;rw [hil] at hl;cases hl;exact absurd hv hx
 exact(hset j hji).symm
theorem O0: ∀(l:List Oper) (i0:Nat),rA i0 l=true→ ∀(i:Nat) o,l[i]? =some o→ ∀e∈o.after,Region.binds .any e=true→e.on<i0+i
 | [],_,_,_,_,h=>by simp at h
 |o::l,i0,h,0,o',hi=>by
  simp at hi;subst hi;intro e he hb;simp only [rA,Bool.and_eq_true,List.all_eq_true,Bool.or_eq_true] at h;rcases h.1 e (by simpa using he) with h1|h1
  ·rw [hb] at h1;cases h1
  simpa [Nat.blt_eq] using h1
 |o::l,i0,h,i+1,o',hi=>by
  simp at hi;simp only [rA,Bool.and_eq_true] at h;intro e he hb
  have:=O0 l (i0+1) h.2 i o' hi e he hb;omega
theorem aIE{Q:S→Prop}{Q':Exit→Act→World→Prop}(hp:pairsOk l.toArray l.length 0 es=true)(he:rA 0 l=true)(hd:Draws K l.toArray l es s Q)
  (hQ: ∀β a w,Rel K β (pC (es.map (·.1)) 0 (fun _=>true) s) a w→Q' .normal a w):
  ∀(fuel:Nat) (listed:Array Bool) (U:List Nat),listed.size=l.length→U.Nodup→U.length=fuel→(∀i,listed.getD i true=false↔i∈U)→aIZ l.toArray listed→
   ∀β a w,Rel K β (pC (es.map (·.1)) 0 (fun j=>listed.getD j true) s) a w→wpAny K.P .any l.toArray Q' fuel listed a w:=by
 obtain⟨hlen,_,hops⟩:=rB l es s Q hd
 -- if nothing is ready, all is done
 have hall: ∀(listed:Array Bool) (U:List Nat),listed.size=l.length→(∀i,listed.getD i true=false↔i∈U)→U≠[]→Region.ready .any l.toArray listed≠[]:=by
  intro listed U hsz hU hne;have key: ∀n,(∃i,i∈U∧i≤n)→ ∃m,m∈U∧ ∀j,j<m→j∉U:=by
   intro n;induction n with
   |zero=>rintro⟨i,hi,hle⟩;exact⟨0,by rwa [show i=0 by omega] at hi,fun j hj=>by omega⟩
   |succ n ih=>
    rintro⟨i,hi,hle⟩;by_cases h: ∃i,i∈U∧i≤n
    ·exact ih h
    have:i=n+1:=by
     rcases Nat.lt_or_ge i (n+1) with hlt|hge
     ·exact absurd ⟨i,hi,by omega⟩ h
     omega
    subst this;exact⟨n+1,hi,fun j hj hjU=>h ⟨j,hjU,by omega⟩⟩
  obtain⟨x,hx⟩:=vBr U hne;obtain⟨m,hm,hmin⟩:=key x ⟨x,hx,kF _⟩;have hmf:=(hU m).2 hm;have hml:m<l.length:=by
   rcases Nat.lt_or_ge m l.length with h|h
   ·exact h
   rw [vAL,Array.getElem?_eq_none (by omega)] at hmf;cases hmf
  intro hnil
  have:m∈Region.ready .any l.toArray listed:=by
   rw [mem_ready];refine⟨hmf,l[m],by simp [hml],fun e hee hb=>?_⟩;have hlt:=O0 l 0 he m l[m] (dH hml) e hee hb;rw [l4] at hlt;have hnot:=hmin e.on hlt;have h1:listed.getD e.on true≠false:=fun h=>hnot ((hU e.on).1 h);have hsz':e.on<listed.size:=by omega
   simp only [Array.getD_eq_getD_getElem?,Array.getElem?_eq_getElem hsz',Option.getD_some] at h1⊢;simpa using h1
  rw [hnil] at this;simp at this
 have hdone: ∀(listed:Array Bool),(∀i,listed.getD i true=true)→pC (es.map (·.1)) 0 (fun j=>listed.getD j true) s=pC (es.map (·.1)) 0 (fun _=>true) s:=by
  intro listed h
  have:(fun j=>listed.getD j true)=fun _=>true:=funext h;rw [this]
 intro fuel;induction fuel with
 |zero=>
  intro listed U hsz hnd hlenU hU hc β a w hr;have hnil:U=[]:=vAv hlenU;subst hnil;have hallT: ∀i,listed.getD i true=true:=fun i=>by
   cases h:listed.getD i true with
   |true=>rfl
   |false=>have:=(hU i).1 h;simp at this
  refine⟨?_,hQ β a w (by rw [←hdone listed hallT];exact hr)⟩;cases hrd:Region.ready .any l.toArray listed with
  |nil=>rfl
  |cons x xs=>
   have:x∈Region.ready .any l.toArray listed:=by rw [hrd];simp
   rw [mem_ready] at this;rw [hallT x] at this;exact absurd this.1 (by simp)
 |succ fuel ih=>
  intro listed U hsz hnd hlenU hU hc β a w hr;have hne:U≠[]:=by intro e;subst e;simp at hlenU
  refine⟨fun h=>absurd h (hall listed U hsz hU hne),fun i hi=>?_⟩;obtain⟨hun,o,ho,hpre⟩:=mem_ready.1 hi;have hil:i<l.length:=by
   rcases Nat.lt_or_ge i l.length with h|h
   ·exact h
   rw [Array.getElem?_eq_none (by simpa using h)] at ho;cases ho
  have hlo:l[i]? =some o:=by simpa using ho
  obtain⟨⟨e,r⟩,hes⟩: ∃p,es[i]? =some p:=⟨es[i]'(by omega),by simp [show i<es.length by omega]⟩
  have hbef: ∀j,fX l.toArray l.length j i=true→listed.getD j false=true:=fun j hb=>o4 hc _ j i hb fun o' ho'=>by rw [ho] at ho';cases ho';exact hpre
  have haft: ∀j,j<es.length→fX l.toArray l.length i j=true→listed.getD j true=false:=fun j hj hb=>by
   cases hlj:listed.getD j true with
   |false=>rfl
   |true=>
    have h1:=o4 hc _ i j hb fun o' ho'=>hc j o' ho' hlj;have hsz':i<listed.size:=by omega
    simp only [Array.getD_eq_getD_getElem?,Array.getElem?_eq_getElem hsz',Option.getD_some] at h1 hun;rw [hun] at h1;cases h1
  have hsame:r.same (pC (es.map (·.1)) 0 (fun j=>listed.getD j true) s) (pC (es.map (·.1)) 0 (fun j=>Nat.blt j i) s):=by
   refine⟨fun x hx=>?_,fun k hk=>⟨?_,?_⟩⟩
   ·exact K7 (·.ts) hp hes s.t x (fun e' r' v hv=>by simp [oL,zW hv hx]) hbef haft hun
   ·exact K7 (·.hs) hp hes s.H k (fun e' r' v hv=>by simp [oL,zW hv hk]) hbef haft hun
   exact K7 (·.us) hp hes s.u k (fun e' r' v hv=>by simp [oL,zW hv hk]) hbef haft hun
  have hstep:e.app (pC (es.map (·.1)) 0 (fun j=>listed.getD j true) s)=pC (es.map (·.1)) 0 (fun j=>(listed.setIfInBounds i true).getD j true) s:=by
   unfold Eff.app pC;simp only [S.mk.injEq];refine⟨?_,?_,?_⟩
   ·exact A8 (·.ts) hp hes s.t (by omega) (fun x e' r' v v' h1 h2=>by simp [oL,tC h2 h1]) haft hun
   ·exact A8 (·.hs) hp hes s.H (by omega) (fun x e' r' v v' h1 h2=>by simp [oL,tC h2 h1]) haft hun
   exact A8 (·.us) hp hes s.u (by omega) (fun x e' r' v v' h1 h2=>by simp [oL,tC h2 h1]) haft hun
  have hop:=hops i o e r hlo hes _ hsame;have hfin: ∀β' a' w',Rel K β' (e.app (pC (es.map (·.1)) 0 (fun j=>listed.getD j true) s)) a' w'→wpAny K.P .any l.toArray Q' fuel (listed.setIfInBounds i true) a' w':=by
   intro β' a' w' hr';rw [hstep] at hr';have hiU:=(hU i).1 hun;refine ih (listed.setIfInBounds i true) (U.erase i) (by simpa using hsz) (hnd.erase i) (by rw [List.length_erase_of_mem hiU];omega) (fun j=>?_) ?_ β' a' w' hr'
   ·rw [hnd.mem_erase_iff];by_cases hj:j=i
    ·subst hj;simp [Array.getD_eq_getD_getElem?,show j<listed.size by omega]
    simp only [Array.getD_eq_getD_getElem?,Array.getElem?_setIfInBounds_ne (Ne.symm hj)]
    have:=hU j;rw [vAL] at this;rw [this];simp [hj]
   intro j o' ho' hj e' he' hb;by_cases hji:j=i
   ·subst hji;rw [ho] at ho';cases ho';exact getD_set_true (hpre e' he' hb)
   have h1:listed.getD j true=true:=by
    simpa only [Array.getD_eq_getD_getElem?,Array.getElem?_setIfInBounds_ne (Ne.symm hji)] using hj
   exact getD_set_true (hc j o' ho' h1 e' he' hb)
  have hmain:=hop β a w (wpAny K.P .any l.toArray Q' fuel (listed.setIfInBounds i true)) Q' hr hfin;unfold wpOp;rw [ho];exact hmain
theorem aGR{id:Nat}{Q:Exit→S→Prop}(es:List (Eff×Look))(hm:K.P.follows .mixedOrders=true)(hp:pairsOk l.toArray l.length 0 es=true)(he:rA 0 l=true)
  (hd:Draws K l.toArray l es s fun s'=>Q .normal s'):eE K (.region id l.toArray true) s Q:=by
 intro β a w Q' hr hk;obtain⟨_,hq,_⟩:=rB l es s _ hd;refine wp_region_any hm ?_;have hr':Rel K β s a {w with drawn:=w.drawn+1}:=pQ hr;have h0:pC (es.map (·.1)) 0 (fun j=>(Array.replicate l.toArray.size false).getD j true) s=s:=by
  have hlen:=(rB l es s _ hd).1;have hno: ∀{α:Type} (ls:List (List (Nat×α))) (L:Nat→Bool) (i:Nat) (f:Nat→α),(∀j,j<ls.length→L (i+j)=false)→mN ls i L f=f:=by
   intro α ls L;induction ls with
   |nil=>intro _ _ _;rfl
   |cons x ls ih=>
    intro i f h;simp only [mN];have h1:=h 0 (by simp);rw [vBp] at h1;rw [h1,cond_false];exact ih (i+1) f fun j hj=>by have:=h (j+1) (by simp;omega);rwa [show i+(j+1)=i+1+j by omega] at this
  have hL: ∀j,j<es.length→(Array.replicate l.toArray.size false).getD (0+j) true=false:=fun j hj=>by
   rw [l4,vAL,vBn,if_pos (by simp;omega)];rfl
  unfold pC;rw [hno _ _ _ _ (by simpa using hL),hno _ _ _ _ (by simpa using hL),hno _ _ _ _ (by simpa using hL)]
 refine aIE hp he hd (fun β a w hr=>hk _ _ _ _ _ hq hr) l.toArray.size (Array.replicate l.toArray.size false) (List.range l.length) (by simp) List.nodup_range (by simp) (fun i=>?_) ?_ β a _ (by rw [h0];exact hr')
 ·rw [vAL,vBn,List.mem_range];by_cases h:i<l.length
  ·rw [if_pos (by simpa using h)];simp [h]
  rw [if_neg (by simpa using h)];simp [h]
 intro j o ho hj;rw [vAL,vBn] at hj;have hjl:j<l.length:=by
  rcases Nat.lt_or_ge j l.length with h|h
  ·exact h
  rw [Array.getElem?_eq_none (by simpa using h)] at ho;cases ho
 rw [if_pos (by simpa using hjl)] at hj;cases hj
end
end Go.Lift
