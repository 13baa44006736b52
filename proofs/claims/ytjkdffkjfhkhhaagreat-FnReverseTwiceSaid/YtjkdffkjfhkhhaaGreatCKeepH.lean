/- Reversing twice is nothing. -/
import Derived.Test.YtjkdffkjfhkhhaaGreatCDist1
set_option maxRecDepth 100000
set_option linter.unusedVariables false
namespace Go.Lift
open Go
theorem aEj{k:Nat}(hk:k<4)(c:Int): ∀x,bO x=true→lQ k c (lQ k c x)=x:=fun x hx=>by obtain⟨a0,a1,a2,a3,e⟩:=aKy (hJ hx).1;obtain⟨cs,b⟩:=x;dsimp only at e;subst e;rcases(show k=0∨k=1∨k=2∨k=3 by omega) with rfl|rfl|rfl|rfl<;>(simp [lQ,aIv,xC,aFq,Int.neg_mul];try omega)
theorem aKc{list:List Arr}{P:Part}(hP:cQ list P=true){k:Nat}(hk:k<P.nest.length)(c:Int):qS k c (qS k c P)=P:=by
 obtain⟨h1,h2⟩:=nL hP;obtain⟨_,h4,h5,_⟩:=gE hP;have hk4:k<4:=by omega
 have ht:(P.nest.take (k+1)).length=k+1:=by rw [uI];omega
 have e1:(qS k c (qS k c P)).nest=P.nest:=by
  show(P.nest.take (k+1)++(P.nest.drop (k+1)).map (d9 (lQ k c))).take (k+1)++((P.nest.take (k+1)++(P.nest.drop (k+1)).map (d9 (lQ k c))).drop (k+1)).map (d9 (lQ k c))=P.nest;rw [List.take_append_of_le_length (by omega),vBe (by omega),List.drop_append_of_le_length (by omega),List.drop_of_length_le (by omega),List.nil_append,vBS]
  have:(P.nest.drop (k+1)).map (d9 (lQ k c) ∘ d9 (lQ k c))=P.nest.drop (k+1):=vN (fun l hl=>by
   show d9 (lQ k c) (d9 (lQ k c) l)=l;rw [aII];exact aKw (aEj hk4 c) (h2 l (vAH hl)))
  rw [this,vBz]
 have e2:(qS k c (qS k c P)).body=P.body:=by
  show(P.body.map (o9 (lQ k c))).map (o9 (lQ k c))=P.body;rw [vBS];exact vN (fun s hs=>by
   show o9 (lQ k c) (o9 (lQ k c) s)=s;rw [aKv];exact aHO (aEj hk4 c) (h5 s hs))
 cases hh:qS k c (qS k c P) with
 |mk a b=>rw [hh] at e1 e2;dsimp only at e1 e2;rw [e1,e2]
theorem aKd{k:Nat}{d:List Int}(hk:k<d.length):rN k (rN k d)=d:=by
 have e:0-(0-d.getD k 0)=d.getD k 0:=by omega
 unfold rN;rw [mJ hk,List.set_set,e];exact U5 (R9 hk 0)
theorem aJ9{p q:Prog}{part loop:Int}(h:yC p part loop=(q,true)):yC q part loop=(p,true):=by
 obtain⟨hv,hw,i,k,P,l,rfl,rfl,hP,hl,hb,hf,e,hM,hK⟩:=aPM h;have hi:=(cH.1 hP).1;have hk:=(cH.1 hl).1;have hok:=(fX hv).2.2.2.1 P (cN hP);obtain⟨n1,n2⟩:=aOy (c:=o7 l) hl;have hQ:q.parts[i]? =some (qS k (o7 l) P):=by rw [e];exact vAA hi
 have hbq:jN q (i:Int) (k:Int)=true:=by
  unfold jN;rw [hw,aS hQ];exact decide_eq_true (by omega)
 have hr:vE q i k l=true:=by
  unfold vE;rw [hf,vAV,vAF];intro d hd;obtain⟨d0,hd0,rfl⟩:=aKt hv hw hP hM hK (aDb.1 hd);rw [aKd (by rw [(vX hv hP (aDb.2 hd0)).1];exact hk)];exact aLx hv hP hd0
 rw [C6 hbq hQ n1,if_pos hr,aKc hok hk,e];dsimp only;rw [List.set_set,U5 hP];unfold aAb;rw [if_pos hv]
theorem J3(code:List UInt8):lJ N code=some true:=by
 have hN:N=100000:=rfl;refine Ev.eq ?_;unfold lJ;refine aH (fun _=>Ev.some rfl) fun _=>aM (aLu code) fun x1 hp=>?_;obtain⟨p,part,loop⟩:=x1;dsimp only at hp⊢;have hR:=aMN hp part loop;refine aOO (REST:=fun x2 x3=>_) hR (aEB (by omega) hp part loop) (aJ4 (by omega) hp part loop) fun h=>?_;have hq:yC p part loop=((yC p part loop).1,true):=by rw [←h]
 have hb:=aEB (n:=N) (by omega) hR part loop;rw [aJ9 hq] at hb;exact aA hb (Ev.jn (fun z=>z=true) (fun j hj=>b8 (aA (aEk (n:=N) (by omega) hp) (hj _ rfl))) fun z hz=>Ev.some hz)
end Go.Lift
