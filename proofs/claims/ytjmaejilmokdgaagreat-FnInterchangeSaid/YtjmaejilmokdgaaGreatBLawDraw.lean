/- What is drawn out of bytes. -/
import Derived.Test.YtjmaejilmokdgaaGreatBModels
import Derived.Test.YtjmaejilmokdgaaGreatBLiftLaw
set_option maxRecDepth 100000
set_option linter.unusedVariables false
namespace Go.Lift
open Go
abbrev N:Nat:=100000
def RdOk(k:Int)(r:L16Rd):Prop:=0≤r.p∧r.p≤k∧r.b.length≤2000
theorem RdOk.mono{k k':Int}{r:L16Rd}(h:RdOk k r)(hk:k≤k'):RdOk k' r:=⟨h.1,by have:=h.2.1;omega,h.2.2⟩
theorem aMW(code:List UInt8):Ev (sA N code) (RdOk 0):=by unfold sA;refine Ev.jn (fun x=>x.length≤2000) (fun j hj=>aH (fun h=>aA (X2 (by omega) (by omega) (by omega)) (hj _ (by simp;omega))) fun h=>hj _ (by omega)) fun z hz=>Ev.some ⟨O3 0,O3 0,hz⟩
theorem aNO(x:UInt8):(x.toNat:Int)≤255:=by have:=UInt8.toNat_lt x;omega
theorem Z5{n:Int}(h:n≠0):nzc n=some ():=by unfold nzc;rw [if_neg h]
theorem aH4{k:Int}{r:L16Rd}{m:Int}(hr:RdOk k r)(hk:k≤1000000000):Ev (bP N r m) (fun x=>0≤x.1∧(1≤m→x.1<m)∧RdOk (k+1) x.2):=by
 obtain⟨b,p⟩:=r;obtain⟨h0,h1,h2⟩:=hr;dsimp only at h0 h1 h2;unfold bP;dsimp only;have e1:wr (p+1)=p+1:=aO (by omega);have e2:wr (p+1-1)=p:=by rw [aO (by omega)];omega
 rw [e1,e2];have hrd:RdOk (k+1) ⟨b,p+1⟩:=⟨by show 0≤p+1;omega,by show p+1≤k+1;omega,h2⟩
 refine Ev.jn (fun z=>z=false→1≤m∧b.length≠0) (fun j hj=>aH (fun h=>hj _ fun h=>by cases h) fun h=>hj _ fun h'=>⟨by omega,by simpa using h'⟩) fun z hz=>?_;refine Ev.cond (fun _=>Ev.some ⟨by simp,fun h=>by simp;omega,hrd⟩) fun hz2=>?_;obtain⟨hm,hb⟩:=hz hz2;refine aH (fun hlt=>?_) fun hge=>?_
 ·obtain⟨x,hx,_⟩:=jO h0 hlt;refine aA hx (aA (Z5 (by omega)) (Ev.some ⟨?_,fun _=>?_,hrd⟩))
  ·exact vBS _ (by omega)
  exact vBN _ (by omega)
 have hL:1≤(b.length:Int)∧(b.length:Int)≤2000:=by omega
 have e3:wr (p*7)=p*7:=aO (by omega);have e4:wr (p*7+3)=p*7+3:=aO (by omega);rw [e3,e4];obtain⟨x,hx,_⟩:=jO (l:=b) (i:=Int.tmod p b.length) (vBS _ h0) (vBN _ (by omega));obtain⟨y,hy,_⟩:=jO (l:=b) (i:=Int.tmod (p*7+3) b.length) (vBS _ (by omega)) (vBN _ (by omega));refine aA (Z5 (by omega)) (aA hx (aA (Z5 (by omega)) (aA hy (aA (Z5 (by omega)) (aA (Z5 (by omega)) (Ev.some ⟨?_,fun _=>vBN _ (by omega),hrd⟩))))));refine vBS _ ?_;have hx1:=aNO x;have hy1:=aNO y;have hq0:0≤Int.tdiv p b.length:=Int.tdiv_nonneg h0 (by omega);have hq1:Int.tdiv p b.length≤p:=Int.tdiv_le_self _ h0;generalize Int.tdiv p b.length=q at hq0 hq1;have f1:wr ((x.toNat:Int)*131)=(x.toNat:Int)*131:=aO (by omega);have f2:wr ((y.toNat:Int)*1117)=(y.toNat:Int)*1117:=aO (by omega);have f3:wr (p*29)=p*29:=aO (by omega);have f4:wr q=q:=aO (by omega);have f5:wr (q*53)=q*53:=aO (by omega);rw [f1,f2,f3,f4,f5];have f6:wr ((x.toNat:Int)*131+(y.toNat:Int)*1117)=(x.toNat:Int)*131+(y.toNat:Int)*1117:=aO (by omega);rw [f6];have f7:wr ((x.toNat:Int)*131+(y.toNat:Int)*1117+p*29)=(x.toNat:Int)*131+(y.toNat:Int)*1117+p*29:=aO (by omega);rw [f7];have f8:wr ((x.toNat:Int)*131+(y.toNat:Int)*1117+p*29+q*53)=(x.toNat:Int)*131+(y.toNat:Int)*1117+p*29+q*53:=aO (by omega);rw [f8];obtain⟨M,hM⟩: ∃M:Nat,(x.toNat:Int)*131+(y.toNat:Int)*1117+p*29+q*53=M:=⟨((x.toNat:Int)*131+(y.toNat:Int)*1117+p*29+q*53).toNat,by omega⟩
 rw [hM];have hMb:(M:Int)≤100000000000000:=by omega
 have e5:Int.tdiv (M:Int) 64=((M / 64:Nat):Int):=by rw [Int.tdiv_eq_ediv_of_nonneg (by omega)];omega
 rw [e5,aO (by omega),aDT _ _ (by omega) (by omega)];omega
theorem aOI{k:Int}{r:L16Rd}{l:List Int}(hr:RdOk k r)(hk:k≤1000000000)(hl:l≠[]):Ev (bK N r l) (fun x=>x.1∈l∧RdOk (k+1) x.2):=by
 unfold bK;have hp:1≤l.length:=by cases l;exact absurd rfl hl;simp
 refine aN (aH4 hr hk) fun x ⟨h0,h1,h2⟩=>?_;obtain⟨y,hy,hy2⟩:=jO h0 (h1 (by omega));exact aA hy (Ev.some ⟨cR hy2,h2⟩)
end Go.Lift
