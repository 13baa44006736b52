/- Independent instances commute. -/
import Derived.Test.YtohillieiccgdaaGreatBRun1
set_option maxRecDepth 100000
set_option linter.unusedVariables false
namespace Go.Lift
open Go
theorem R9(code more:List UInt8):lO N code more=some true:=by
 have hN:N=100000:=rfl
 refine Ev.eq ?_
 unfold lO
 refine Ev.jn (fun z=>True) (fun j hj=>aF (fun _=>hj _ trivial) (fun _=>hj _ trivial)) (fun z _=>Ev.cond (fun _=>Ev.some rfl) (fun _=> ?_))
 refine aG (Z5 code) (fun x3 ⟨hs,hm⟩=> ?_)
 obtain⟨p,m⟩:=x3
 dsimp only at hs hm⊢
 refine aA (eQ (by omega) hs) (aA (wQ (by omega) hs hm) ?_)
 refine Ev.jn (fun z=>z=true∨(z=false∧mZ p m=true∧2≤(if bO p=true then insts p.parts else []).length)) (fun j hj=>aF (fun _=>hj _ (.inl rfl)) (fun h2=> ?_)) (fun z hz=> ?_)
 ·cases hv:mZ p m with
  |false=>rw [aAK hv];exact hj _ (.inl rfl)
  |true=>rw [xY hv];exact hj _ (.inr ⟨rfl,hv,by omega⟩)
 rcases hz with rfl|⟨rfl,hv,h2⟩
 ·refine bX (aA (wL (by omega) hs hm) ?_)
  have hl:(I1 p m).1.length≤1000:=by
   cases hv:mZ p m with
   |false=>rw [aAK hv];simp
   |true=>
    obtain⟨hp,hmo⟩:=Q0 hv
    rw [xY hv]
    exact aAT hp (mV hp (fun x hx=>insts_mem hx) hmo)
  exact aA (vW (by omega) hl) (Ev.some rfl)
 obtain⟨hp,hmo⟩:=Q0 hv
 rw [if_pos hp] at h2
 rw [if_pos hp,xY hv]
 have hil:=(eA hp).2.2.2.2
 have hok: ∀x∈insts p.parts,dE p x:=fun x hx=>insts_mem hx
 have hdi:=fun(i k:Nat) a b=>wT (n:=N) (by omega) hs hp (i:=i) (k:=k) a b
 have hds:=fun(i k:Nat) a b=>wN (n:=N) (by omega) hs hp (i:=i) (k:=k) a b
 have hsame:=fun(k:Nat) a b=>V7 hp hok (k:=k) a b hmo
 have hro:cQ p m (insts p.parts)=cQ p m (insts p.parts):=rfl
 have hml:=aAT hp (mV hp hok hmo)
 have horder: ∀k,k+1<(insts p.parts).length→aAL p m (oM (insts p.parts).length k)=(cQ p m (pick (insts p.parts) (oM (insts p.parts).length k)),true):=fun k hk=>by
  unfold aAL P8
  rw [if_pos ⟨hv,by rw [hp,O3 hk];rfl⟩]
 generalize insts p.parts=l at*
 have w1:wr ((l.length:Int)-1)=(l.length:Int)-1:=aI (by omega)
 rw [w1]
 have k0:0≤Int.tmod (more.length:Int) ((l.length:Int)-1):=Int.tmod_nonneg _ (by omega)
 have k1:Int.tmod (more.length:Int) ((l.length:Int)-1)<(l.length:Int)-1:=Int.tmod_lt_of_pos _ (by omega)
 generalize Int.tmod (more.length:Int) ((l.length:Int)-1)=kk at k0 k1
 obtain⟨k,rfl⟩: ∃k:Nat,kk=k:=⟨kk.toNat,by omega⟩
 have hk:k+1<l.length:=by omega
 have w2:wr ((k:Int)+1)=((k+1:Nat):Int):=by rw [aI (by omega)];omega
 rw [w2]
 refine bK (aA (uR (by omega)) (Ev.loop (fun z:List Int×Int=> ∃i:Nat,z.2=i∧i≤l.length∧z.1=nW 0 i) (fun z=>l.length-z.2.toNat) ?_ N _ ⟨0,rfl,by omega,rfl⟩ (by dsimp only;omega)))
 rintro again ⟨a,z⟩ ⟨i,hz,hi,ha⟩ hr
 dsimp only at hz ha⊢
 subst hz
 refine aF (fun hlt=> ?_) (fun hge=> ?_)
 ·refine aA (bQ (by rw [ha,pY,List.length_singleton];omega)) ?_
  rw [aI (by omega)]
  exact hr _ ⟨i+1,by dsimp only;omega,by omega,by dsimp only;rw [uZ,Nat.zero_add,ha]⟩ (by dsimp only;omega)
 ·have e:i=l.length:=by omega
  subst e
  subst ha
  have hil2:(nW 0 l.length).length=l.length:=pY _ _
  obtain⟨y,hy,_⟩:=fY (l:=nW 0 l.length) (i:=(k:Int)) (by omega) (by omega)
  refine aA hy (aA (fZ ⟨by omega,by omega⟩ _) ?_)
  obtain⟨y2,hy2,_⟩:=fY (l:=(nW 0 l.length).set (k:Int).toNat ((k+1:Nat):Int)) (i:=((k+1:Nat):Int)) (by omega) (by rw [List.length_set];omega)
  refine aA hy2 (aA (fZ ⟨by omega,by rw [List.length_set];omega⟩ _) ?_)
  rw [Int.toNat_natCast,Int.toNat_natCast]
  have hsw:((nW 0 l.length).set k ((k+1:Nat):Int)).set (k+1) (k:Int)=oM l.length k:=by unfold oM;rw [show((k+1:Nat):Int)=(k:Int)+1 by omega]
  rw [hsw]
  refine aA (B4 (by omega) hs hm (by rw [qJ];omega)) (aA (hdi _ _ (by omega) hk) ?_)
  rw [horder k hk]
  refine Ev.jn (fun z=>z=true) (fun j hj=>aA (hds _ _ (by omega) hk) ?_) (fun z hz=>Ev.some hz)
  refine Ev.cond (fun _=>bX ?_) (fun h=>by simp at h)
  refine jD (fun _=>hj _ rfl) (fun h0=> ?_)
  dsimp only
  rw [hsame k hk h0]
  exact aA (vW (by omega) hml) (hj _ rfl)
end Go.Lift
