/- Interchanged and reversed loops: as many instances, the same cells. -/
import Derived.Test.YtcihigfifglboabGreatEDist1
import Derived.Test.YtcihigfifglboabGreatERun1
set_option maxRecDepth 100000
set_option linter.unusedVariables false
namespace Go.Lift
open Go
theorem aMn{p q:Prog}(hp:BG 1000 p)(hq:BG 1000 q)(hv:bF p=true)(hw:bF q=true){i:Nat}{τ:List Int→List Int}(hM:Mov p q i τ): ∃B W,bK N q=some B∧B.length=(insts p.parts).length∧bC N q=some W∧bC N p=some W∧jV N W W=some true:=by
 have hN:N=100000:=rfl;have h1:=lO (n:=N) (by omega) hq.sm;have h2:=qI (n:=N) (by omega) hq.sm;have h3:=qI (n:=N) (by omega) hp.sm;rw [if_pos hw] at h1 h2;rw [if_pos hv] at h3;have hl:(insts q.parts).length=(insts p.parts).length:=by rw [hM.perm.length_eq,o7]
 have ht:tot q=tot p:=by unfold tot;rw [hM.arr]
 have e:wfl q (insts q.parts)=wfl p (insts p.parts):=by
  refine List.ext_getElem (by rw [wU,wU,ht]) fun c g1 g2=>?_;have k1:=aIb (c:=c) hw (l:=insts q.parts) fun x hx=>insts_mem hx;have k2:=aIb (c:=c) hv (l:=insts p.parts) fun x hx=>insts_mem hx;have d1:(wfl q (insts q.parts)).getD c false=(wfl q (insts q.parts))[c]:=by rw [wW,cP g1];rfl
  have d2:(wfl p (insts p.parts)).getD c false=(wfl p (insts p.parts))[c]:=by rw [wW,cP g2];rfl
  rw [d1] at k1;rw [d2] at k2;rw [vBT,k1,k2];constructor
  ·rintro⟨x,hx,rfl⟩;obtain⟨y,hy,rfl⟩:=V3.1 (hM.perm.subset hx);exact⟨y,hy,((hM.cells y hy).2).symm⟩
  rintro⟨y,hy,rfl⟩;exact⟨_,hM.perm.symm.subset (List.mem_map_of_mem hy),(hM.cells y hy).2⟩
 rw [e] at h2;refine⟨_,_,h1,hl,h2,h3,aE7 (by omega) ?_⟩;refine V4 (aFn _) ?_;rw [wU]
 have:=aOD hv;unfold tot;omega
theorem yN(code:List UInt8):kN N code=some true:=by
 have hN:N=100000:=rfl;refine Ev.eq ?_;unfold kN;refine aG (fun _=>Ev.some rfl) fun _=>aK (aMj code) fun x1 hp=>?_;obtain⟨p,part,loop⟩:=x1;dsimp only at hp⊢;have hX:=aMT hp part loop;have hR:=aNJ hp part loop;have he:((qY p part loop).2==(qY p part loop).2)=true:=by cases (qY p part loop).2<;>rfl
 refine aA (aLB (by omega) hp part loop) (aA (aLC (by omega) hp part loop) (aA (aKS (by omega) hp part loop) (Ev.jn (fun z=>z=false) (fun j hj=>?_) fun z hz=>?_)))
 ·rw [he];exact b7 (aA (aK6 (n:=N) (by omega) hX) (hj _ rfl))
 rw [hz];have hxd:(qY p part loop).2=true→ ∃B W,bF p=true∧bK N (qY p part loop).1=some B∧B.length=(insts p.parts).length∧bC N (qY p part loop).1=some W∧bC N p=some W∧jV N W W=some true:=fun h=>by
  obtain⟨hv,hw,i,k,P,rfl,rfl,hP,hM,hK⟩:=aQB (q:=(qY p part loop).1) (by rw [←h]);obtain⟨B,W,hBW⟩:=aMn hp hX hv hw hM;exact⟨B,W,hv,hBW⟩
 have hrd:(E2 p part loop).2=true→ ∃B W,bF p=true∧bK N (E2 p part loop).1=some B∧B.length=(insts p.parts).length∧bC N (E2 p part loop).1=some W∧bC N p=some W∧jV N W W=some true:=fun h=>by
  obtain⟨hv,hw,i,k,P,l,rfl,rfl,hP,hl,hb,hf,e,hM,hK⟩:=aQN (q:=(E2 p part loop).1) (by rw [←h]);obtain⟨B,W,hBW⟩:=aMn hp hR hv hw hM;exact⟨B,W,hv,hBW⟩
 refine b7 (aA (lO (n:=N) (by omega) hp.sm) (Ev.jn (fun z=>z=true) (fun j hj=>?_) fun z hz=>Ev.some hz));generalize qY p part loop=X at*;generalize E2 p part loop=R at*;have hrev:Ev (bif !R.2 then j true else Option.bind (bK N R.1) fun x18=>bif decide ((x18.length:Int)=((if bF p=true then insts p.parts else []).length:Int)) then(Option.bind (bC N R.1) fun x19=>Option.bind (bC N p) fun x20=>Option.bind (jV N x19 x20) fun x21=>j x21) else j false) (fun x=>x=true):=by
  cases hr:R.2 with
  |false=>exact bZ (hj _ rfl)
  |true=>
   obtain⟨B,W,hv,a1,a2,a3,a4,a5⟩:=hrd hr;refine b7 (aA a1 ?_);rw [if_pos hv,decide_eq_true (by omega)];exact bZ (aA a3 (aA a4 (aA a5 (hj _ rfl))))
 cases hx:X.2 with
 |false=>exact bZ hrev
 |true=>
  obtain⟨B,W,hv,a1,a2,a3,a4,a5⟩:=hxd hx;refine b7 (aA a1 ?_);rw [if_pos hv] at hrev⊢;rw [decide_eq_true (by omega)];exact bZ (aA a3 (aA a4 (aA a5 (bZ hrev))))
end Go.Lift
