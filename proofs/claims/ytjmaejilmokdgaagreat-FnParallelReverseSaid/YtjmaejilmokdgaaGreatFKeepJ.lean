/- A reversed parallel loop is parallel. -/
import Derived.Test.YtjmaejilmokdgaaGreatFDist1
import Derived.Test.YtjmaejilmokdgaaGreatFDistcG
set_option maxRecDepth 100000
set_option linter.unusedVariables false
namespace Go.Lift
open Go
theorem aDu(k j:Nat)(d:List Int):(v8 k d).getD j 0=if j=k then 0-d.getD j 0 else d.getD j 0:=by
 unfold v8;by_cases h:j=k
 ·subst h;rw [if_pos rfl];by_cases hl:j<d.length
  ·exact lN hl _
  have e:d.getD j 0=0:=by rw [s8,vAV (by omega)];rfl
  rw [e,s8,vAV (by rw [vAW];omega)];rfl
 rw [if_neg h,s8,vAF (by omega),s8]
theorem aGR(k:Nat)(d:List Int):wJ (v8 k d)=wJ d:=by
 apply Option.ext;intro t;have key: ∀j,(v8 k d).getD j 0=0↔d.getD j 0=0:=fun j=>by
  rw [aDu];by_cases h:j=k
  ·rw [if_pos h];omega
  rw [if_neg h]
 rw [N1,N1];exact⟨fun⟨a,b⟩=>⟨fun h=>a ((key t).2 h),fun j hj=>(key j).1 (b j hj)⟩,fun⟨a,b⟩=>⟨fun h=>a ((key t).1 h),fun j hj=>(key j).2 (b j hj)⟩⟩
theorem wA(code:List UInt8):iO N code=some true:=by
 have hN:N=100000:=rfl;refine Ev.eq ?_;unfold iO jH;refine aH (fun _=>Ev.some rfl) fun _=>aI (aKu code) fun x1 hp=>?_;obtain⟨p,part,loop⟩:=x1;dsimp only at hp⊢;refine aA (aG0 (by omega) hp.sm part loop) (Ev.jn (fun z=>z= !(eO p part loop&&aAo p part.toNat loop.toNat)) (fun j hj=>aA (aGC (by omega) hp part loop) ?_) fun z hz=>?_)
 ·rw [beq_self_eq_true];exact bV (hj _ rfl)
 subst hz;cases hvv:(eO p part loop&&aAo p part.toNat loop.toNat) with
 |false=>
  refine cE (aA (aGC (by omega) hp part loop) (Ev.some ?_));rw [hvv];rfl
 |true=>
  simp only [Bool.and_eq_true] at hvv;obtain⟨hc,hpar⟩:=hvv;obtain⟨hv,i,k,P,l,rfl,rfl,hP,hl,hi,hkl,hok,hk⟩:=xA hc;rw [sZ,sZ] at hpar;have hno: ∀d∈dsO p i,wJ d≠some k:=fun d hd e=>by
   unfold aAo at hpar
   have:((e9 p i).foldl eQ []).any (fun d=>decide (wJ d=some k))=true:=vBz.2 ⟨d,hd,decide_eq_true e⟩;rw [this] at hpar;cases hpar
  refine bV (aA (x:=dsO p i) (V3 (by omega) hp.sm hv hP) ?_);have hlen:=aKf hv (i:=i);have hR:=aLz hp (i:Int) (k:Int);have h4:=(jZ hok).1;refine Ev.loop (fun x:Int=> ∃m:Nat,x=m∧m≤(dsO p i).length) (fun x=>(dsO p i).length-x.toNat) ?_ N _ ⟨0,rfl,by omega⟩ (by omega);rintro again z ⟨m,rfl,hm⟩ hr;refine aH (fun hlt=>?_) fun hge=>?_
  ·have hlt:m<(dsO p i).length:=by omega
   have e1:=cD hlt;have hmem:=C6 hlt;obtain⟨g1,g2⟩:=zX hv hP hmem;have hpos:=aKi hv hP (W8.1 hmem);have hn:=hno _ hmem;generalize (dsO p i)[m]=d at*;have e2:=N4 (l:=d) (k:=k) (by omega) 0;have hb:=g2 _ (cK e2);unfold lV at hb;refine aA (aN e1) (aA (bU (by simp;omega)) ?_);rw [List.nil_append];refine aA (aN e2) ?_;rw [aK (by omega)];refine aA (d4 (by omega) _) ?_;rw [sZ];refine aA (x:=L2 (v8 k d)) (w9 (d:=v8 k d) (by rw [Q6];omega) (by omega)) (Ev.jn (fun z=>z=false) (fun j hj=>?_) fun z hz=>?_)
   ·unfold L2 posL at*;rw [aGR];cases hlv:wJ d with
    |none=>exact aH (fun h=>absurd h (by show¬(0:Int)≤ -1;omega)) (fun _=>hj _ rfl)
    |some t=>
     rw [hlv] at hpos hn;obtain⟨t1,t2⟩:=aJl hlv;have htk:t≠k:=fun e=>hn (by rw [e]);have e3:=N4 (l:=v8 k d) (k:=t) (by rw [Q6];exact t1) 0;rw [aDu,if_neg htk] at e3;have hpos:0≤d.getD t 0:=by simpa using hpos
     exact aH (fun _=>aA (aN e3) (hj _ (decide_eq_false (by omega)))) fun h=>absurd (show(0:Int)≤(t:Int) by omega) h
   rw [hz,aK (by omega)];exact bV (hr _ ⟨m+1,by omega,by omega⟩ (by omega))
  refine aA (aJz (by omega) hp (i:Int) (k:Int)) (Ev.jn (fun z=>z=true) (fun j hj=>?_) fun z hz=>Ev.some hz);cases hr2:(yZ p (i:Int) (k:Int)).2 with
  |false=>exact cE (hj _ rfl)
  |true=>
   have hq:yZ p (i:Int) (k:Int)=((yZ p (i:Int) (k:Int)).1,true):=by rw [←hr2]
   refine bV (aA (aG0 (by omega) hR.sm (i:Int) (k:Int)) (hj _ ?_));obtain⟨hv,hw,i2,k2,P2,l2,hi2,hk2,hP2,hl2,hb,hf,e,hM,hK⟩:=aOB hq;obtain rfl:i=i2:=by omega
   obtain rfl:k=k2:=by omega
   rw [hP] at hP2;cases hP2;rw [hl] at hl2;cases hl2;obtain⟨n1,n2⟩:=aNl (c:=rE l) hl;have hQ:(yZ p (i:Int) (k:Int)).1.parts[i]? =some (D5 k (rE l) P):=by rw [e];exact vAy hi
   have hbq:eO (yZ p (i:Int) (k:Int)).1 (i:Int) (k:Int)=true:=by
    unfold eO;rw [hw,aN hQ];exact decide_eq_true (by omega)
   rw [hbq,sZ,sZ,vAX];unfold aAo;rw [Bool.not_eq_true',List.any_eq_false];intro d hd;obtain⟨d0,hd0,rfl⟩:=aJj hv hw hP hM hK (W8.1 hd);rw [aGR];simpa using hno _ (W8.2 hd0)
end Go.Lift
