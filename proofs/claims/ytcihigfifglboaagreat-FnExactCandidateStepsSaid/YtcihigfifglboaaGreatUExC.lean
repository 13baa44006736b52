/- The law of the steps that may be tried, for every program. -/
import Derived.Test.YtcihigfifglboaaGreatUExM
import Derived.Test.YtcihigfifglboaaGreatUModels
import Derived.Test.YtcihigfifglboaaGreatUCandA
set_option maxRecDepth 100000
set_option linter.unusedVariables false
namespace Go.Lift
open Go
def stF(k:Int)(m:Nat):List Step:=(List.range m).map fun i:Nat=>⟨k+4*i,k+4*i+1,k+4*i+2,k+4*i+3⟩
theorem q8(k:Int)(m:Nat):(stF k m).length=m:=by simp [stF]
theorem aCQ(k:Int)(m:Nat):stF k (m+1)=stF k m++[⟨k+4*m,k+4*m+1,k+4*m+2,k+4*m+3⟩]:=by simp [stF,List.range_succ]
theorem aE5{k:Int}{m i:Nat}(h:i<m):(stF k m)[i]? =some ⟨k+4*i,k+4*i+1,k+4*i+2,k+4*i+3⟩:=by simp [stF,h]
theorem I5{n:Nat}(hn:2000000≤n){a:List Step}(ha:a.length≤1048576):kV n a 1=some (1+4*(a.length:Int),stF 1 a.length):=by
 unfold kV;refine Ev.eq (Ev.loop (fun z:List Step×Int×Int=> ∃j:Nat,z.2.2=j∧j≤a.length∧z.2.1=1+4*j∧z.1=stF 1 j++a.drop j) (fun z=>a.length-z.2.2.toNat) ?_ n _ ⟨0,rfl,by omega,by simp,by simp [stF]⟩ (by dsimp only;omega));rintro again ⟨l,k1,i⟩ ⟨j,rfl,hj,rfl,rfl⟩ hr;dsimp only;have hl:(stF 1 j++a.drop j).length=a.length:=by simp [q8];omega
 refine aL (fun hlt=>?_) fun hge=>?_
 ·have hlt:j<a.length:=by rw [hl] at hlt;omega
  generalize hL:stF 1 j++a.drop j=L at hl;have hg: ∀(y:Step),(L.set j y)[j]? =some y:=fun y=>O1 (by omega);rw [aN (n:=1+4*(j:Int)+1) (by omega),aN (n:=1+4*(j:Int)+1+1) (by omega),aN (n:=1+4*(j:Int)+1+1+1) (by omega),aN (n:=1+4*(j:Int)+1+1+1+1) (by omega),aN (n:=(j:Int)+1) (by omega)];refine aB (aT (dC (show j<_ by omega))) (aB (fM (by omega) _) ?_);rw [vAO];refine aB (aT (hg _)) (aB (fM (by simp;omega) _) ?_);rw [vAO,List.set_set];refine aB (aT (hg _)) (aB (fM (by simp;omega) _) ?_);rw [vAO,List.set_set];refine aB (aT (hg _)) (aB (fM (by simp;omega) _) ?_);rw [vAO,List.set_set];refine hr _ ⟨j+1,by dsimp only;omega,by omega,by dsimp only;omega,?_⟩ (by dsimp only;omega);dsimp only;subst hL;rw [List.set_append_right _ _ (by rw [q8];omega),q8,Nat.sub_self,List.drop_eq_getElem_cons hlt,List.set_cons_zero,aCQ,U9];have e1:1+4*(j:Int)+1+1=1+4*j+2:=by omega
  have e2:1+4*(j:Int)+2+1=1+4*j+3:=by omega
  simp only [e1,e2];rfl
 have:j=a.length:=by rw [hl] at hge;omega
 subst this;exact Ev.some (by simp)
theorem J0{n m:Nat}(hn:2000000≤n)(hm:m≤1048576):iH n (stF 1 m) 1=some (1+4*(m:Int)):=by unfold iH;refine Ev.eq (Ev.loop (fun z:Int×Int=> ∃j:Nat,z.2=j∧j≤m∧z.1=1+4*j) (fun z=>m-z.2.toNat) ?_ n _ ⟨0,rfl,by omega,by simp⟩ (by dsimp only;omega));rintro again ⟨k1,i⟩ ⟨j,rfl,hj,rfl⟩ hr;dsimp only;rw [q8];refine aL (fun hlt=>?_) fun hge=>Ev.some (show 1+4*(j:Int)=1+4*(m:Int) by omega);refine aB (aT (aE5 (by omega))) ?_;rw [aN (n:=1+4*(j:Int)+1) (by omega),aN (n:=1+4*(j:Int)+1+1) (by omega),aN (n:=1+4*(j:Int)+1+1+1) (by omega),aN (n:=1+4*(j:Int)+1+1+1+1) (by omega),aN (n:=(j:Int)+1) (by omega)];refine b6 (fun h=>absurd rfl h) fun _=>b6 (fun h=>absurd rfl h) fun _=>b6 (fun h=>absurd (by dsimp only;omega) h) fun _=>b6 (fun h=>absurd (by dsimp only;omega) h) fun _=>?_;exact hr _ ⟨j+1,by dsimp only;omega,by omega,by dsimp only;omega⟩ (by dsimp only;omega)
theorem aFB{n:Nat}(hn:2000000≤n){a:List Step}(ha:a.length≤1048576):lW n a a=some true:=qJ ha hn (fun x _=>by unfold wO;exact Ev.eq (b6 (fun h=>absurd rfl h) fun _=>b6 (fun h=>absurd rfl h) fun _=>b6 (fun h=>absurd rfl h) fun _=>b6 (fun h=>absurd rfl h) fun _=>Ev.some rfl))
theorem mA{m:Nat}{p:Prog}(hp:QP 9223372036854775807 m p):dR (30000000+m) p=some true:=by
 have hn:20000001+m≤30000000+m:=by omega
 generalize hN:30000000+m=n at hn;obtain⟨r,e,hr⟩:=aE2 (n:=n) (by omega) hp 1048576 (by omega) (by omega);unfold dR;refine Ev.eq (aB e ?_);rcases hr with rfl|⟨h0,hc,hb⟩
 ·exact aL (fun _=>Ev.some rfl) fun h=>absurd h (by decide)
 have ht:=aEZ (n:=n) (by omega) hb;have hi:=pJ (n:=n) (by omega) (aF1 hb);have hs:=pI (n:=n) (by omega) (aF1 hb);have hl:(if iK p=true then R5 p else []).length≤1048576:=by
  split
  ·rename_i hv;have:=(aD4 hv).1;omega
  simp
 generalize (if iK p=true then R5 p else [])=c at hi hs hl;obtain⟨q,hq,q1,q2⟩:=aGB (n:=n) (m:=m) (by omega) hb (k:=1) (by omega) (by omega);have heq:=aFB (n:=n) (by omega) hl;have hhe:=J0 (n:=n) (by omega) hl;refine aL (fun h=>absurd h (by omega)) fun _=>aB ht (aB hs (aB ht (aB hi (aB heq (bF (aB ht (aB (aFz (by omega) hb) (bF (aB hq ?_)))))))));refine Ev.jn (fun z=>z=false) (fun j hj=>?_) fun z hz=>?_
 ·exact aL (fun h=>absurd h (by omega)) fun _=>aB heq (hj _ rfl)
 subst hz;refine Ev.cond (fun h=>by cases h) fun _=>aB (I5 (by omega) hl) (aB (bX (q8 _ _)) (aB hhe (aL (fun h=>absurd h (by omega)) fun _=>b6 (fun h=>absurd rfl h) fun _=>?_)));refine aB ht (aB hi (aB heq (bF (aB hhe (aL (fun h=>absurd h (by omega)) fun _=>b6 (fun h=>absurd rfl h) fun _=>Ev.some rfl)))))
end Go.Lift
