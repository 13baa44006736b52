/- What is drawn out of bytes. -/
import Derived.Test.YtcihigfifglboabGreatEModels
import Derived.Test.YtcihigfifglboabGreatELiftLaw
set_option maxRecDepth 100000
set_option linter.unusedVariables false
namespace Go.Lift
open Go
abbrev N:Nat:=100000
def RdOk(k:Int)(r:L16Rd):Prop:=0≤r.p∧r.p≤k∧r.b.length≤2000
theorem RdOk.mono{k k':Int}{r:L16Rd}(h:RdOk k r)(hk:k≤k'):RdOk k' r:=⟨h.1,by have:=h.2.1;omega,h.2.2⟩
theorem aNO(code:List UInt8):Ev (sH N code) (RdOk 0):=by unfold sH;refine Ev.jn (fun x=>x.length≤2000) (fun j hj=>aG (fun h=>aA (Z1 (by omega) (by omega) (by omega)) (hj _ (by simp;omega))) fun h=>hj _ (by omega)) fun z hz=>Ev.some ⟨Y3 0,Y3 0,hz⟩
theorem aOC(x:UInt8):(x.toNat:Int)≤255:=by have:=UInt8.toNat_lt x;omega
theorem aAo{n:Int}(h:n≠0):nzc n=some ():=by unfold nzc;rw [if_neg h]
theorem aIs{k:Int}{r:L16Rd}{m:Int}(hr:RdOk k r)(hk:k≤1000000000):Ev (bD N r m) (fun x=>0≤x.1∧(1≤m→x.1<m)∧RdOk (k+1) x.2):=by
 obtain⟨b,p⟩:=r;obtain⟨h0,h1,h2⟩:=hr;dsimp only at h0 h1 h2;unfold bD;dsimp only;have e1:wr (p+1)=p+1:=aN (by omega);have e2:wr (p+1-1)=p:=by rw [aN (by omega)];omega
 rw [e1,e2];have hrd:RdOk (k+1) ⟨b,p+1⟩:=⟨by show 0≤p+1;omega,by show p+1≤k+1;omega,h2⟩
 refine Ev.jn (fun z=>z=false→1≤m∧b.length≠0) (fun j hj=>aG (fun h=>hj _ fun h=>by cases h) fun h=>hj _ fun h'=>⟨by omega,by simpa using h'⟩) fun z hz=>?_;refine Ev.cond (fun _=>Ev.some ⟨by simp,fun h=>by simp;omega,hrd⟩) fun hz2=>?_;obtain⟨hm,hb⟩:=hz hz2;refine aG (fun hlt=>?_) fun hge=>?_
 ·obtain⟨x,hx,_⟩:=jR h0 hlt;refine aA hx (aA (aAo (by omega)) (Ev.some ⟨?_,fun _=>?_,hrd⟩))
  ·exact Int.tmod_nonneg _ (by omega)
  exact Int.tmod_lt_of_pos _ (by omega)
 have hL:1≤(b.length:Int)∧(b.length:Int)≤2000:=by omega
 have e3:wr (p*7)=p*7:=aN (by omega);have e4:wr (p*7+3)=p*7+3:=aN (by omega);rw [e3,e4];obtain⟨x,hx,_⟩:=jR (l:=b) (i:=Int.tmod p b.length) (Int.tmod_nonneg _ h0) (Int.tmod_lt_of_pos _ (by omega));obtain⟨y,hy,_⟩:=jR (l:=b) (i:=Int.tmod (p*7+3) b.length) (Int.tmod_nonneg _ (by omega)) (Int.tmod_lt_of_pos _ (by omega));refine aA (aAo (by omega)) (aA hx (aA (aAo (by omega)) (aA hy (aA (aAo (by omega)) (aA (aAo (by omega)) (Ev.some ⟨?_,fun _=>Int.tmod_lt_of_pos _ (by omega),hrd⟩))))));refine Int.tmod_nonneg _ ?_;have hx1:=aOC x;have hy1:=aOC y;have hq0:0≤Int.tdiv p b.length:=Int.tdiv_nonneg h0 (by omega);have hq1:Int.tdiv p b.length≤p:=Int.tdiv_le_self _ h0;generalize Int.tdiv p b.length=q at hq0 hq1;have f1:wr ((x.toNat:Int)*131)=(x.toNat:Int)*131:=aN (by omega);have f2:wr ((y.toNat:Int)*1117)=(y.toNat:Int)*1117:=aN (by omega);have f3:wr (p*29)=p*29:=aN (by omega);have f4:wr q=q:=aN (by omega);have f5:wr (q*53)=q*53:=aN (by omega);rw [f1,f2,f3,f4,f5];have f6:wr ((x.toNat:Int)*131+(y.toNat:Int)*1117)=(x.toNat:Int)*131+(y.toNat:Int)*1117:=aN (by omega);rw [f6];have f7:wr ((x.toNat:Int)*131+(y.toNat:Int)*1117+p*29)=(x.toNat:Int)*131+(y.toNat:Int)*1117+p*29:=aN (by omega);rw [f7];have f8:wr ((x.toNat:Int)*131+(y.toNat:Int)*1117+p*29+q*53)=(x.toNat:Int)*131+(y.toNat:Int)*1117+p*29+q*53:=aN (by omega);rw [f8];obtain⟨M,hM⟩: ∃M:Nat,(x.toNat:Int)*131+(y.toNat:Int)*1117+p*29+q*53=M:=⟨((x.toNat:Int)*131+(y.toNat:Int)*1117+p*29+q*53).toNat,by omega⟩
 rw [hM];have hMb:(M:Int)≤100000000000000:=by omega
 have e5:Int.tdiv (M:Int) 64=((M / 64:Nat):Int):=by rw [Int.tdiv_eq_ediv_of_nonneg (by omega)];omega
 rw [e5,aN (by omega),aEc _ _ (by omega) (by omega)];omega
theorem aPy{k:Int}{r:L16Rd}{l:List Int}(hr:RdOk k r)(hk:k≤1000000000)(hl:l≠[]):Ev (bA N r l) (fun x=>x.1∈l∧RdOk (k+1) x.2):=by
 unfold bA;have hp:1≤l.length:=by cases l;exact absurd rfl hl;simp
 refine aK (aIs hr hk) fun x ⟨h0,h1,h2⟩=>?_;obtain⟨y,hy,hy2⟩:=jR h0 (h1 (by omega));exact aA hy (Ev.some ⟨cR hy2,h2⟩)
end Go.Lift
