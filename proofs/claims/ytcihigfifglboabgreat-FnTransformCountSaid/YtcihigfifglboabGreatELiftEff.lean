/- Regions whose effect is reckoned, not told. -/
import Derived.Test.YtcihigfifglboabGreatELiftZ
set_option linter.unusedVariables false
namespace Go.Lift
open Go
variable {K:Ctx} {C:Cfg}
def xV:Option (Eff×List Ob)→Eff
 |some r=>r.1
 |none=>⟨[],[],[]⟩
def ckE(r:Eff×List Ob):Prop×List Nat×Bool:=(obP r.2,obL r.2,true)
def ckH(ψ:Prop)(r:Eff×List Ob):Prop×List Nat×Bool:=(ψ,obR r.2,true)
def fC(x:Option (Eff×List Ob))(n:Prop×List Nat×Bool)(f:Eff×List Ob→Prop×List Nat×Bool):Prop×List Nat×Bool:=match x with
 |some r=>f r
 |none=>n
theorem aHo{x:Option (Eff×List Ob)}{ψ:Prop}(hψ:ψ)(h:fC x (False,[],false) ckE=fC x (True,[],true) (ckH ψ)): ∃φ,x=some (xV x,φ)∧Obs φ:=by
 cases x with
 |none=>simp [fC] at h
 |some r=>
  obtain⟨e,φ⟩:=r;simp only [fC,ckE,ckH,Prod.mk.injEq] at h;obtain⟨h1,h2,_⟩:=h;exact⟨φ,rfl,Obs.of (h1▸hψ) h2⟩
theorem rgE{id:Nat}{l:List Oper}{s:S}{Q:Exit→S→Prop}(hC:C.Fits K)(hs:List Hn){ψ:Prop}(hψ:ψ)
  (h:fC (evL C l.toArray l hs s) (False,[],false) ckE=fC (evL C l.toArray l hs s) (True,[],true) (ckH ψ)) (hn:Q .normal ((xV (evL C l.toArray l hs s)).app s)):gF K (.region id l.toArray false) s Q:=by obtain⟨φ,h1,h2⟩:=aHo hψ h;exact S9 _ (aLX hC h1 h2 (aKn (S.le.refl K _))) hn
theorem rdE{id:Nat}{l:List Oper}{s:S}{Q:Exit→S→Prop}(hC:C.Fits K)(hm:K.P.follows .mixedOrders=true)(hs:List Hn){ψ:Prop}(hψ:ψ)
  (h:fC (evR C l hs s) (False,[],false) ckE=fC (evR C l hs s) (True,[],true) (ckH ψ)) (hn:Q .normal ((xV (evR C l hs s)).app s)):gF K (.region id l.toArray true) s Q:=by
 obtain⟨φ,h1,h2⟩:=aHo hψ h;generalize xV (evR C l hs s)=e at*;unfold evR at h1;split at h1
 ·cases h1
 rename_i e0 φ0 hs1 hp;split at h1
 ·cases h1
 rename_i es φ1 hd;split at h1
 ·rename_i hb;cases h1;simp only [Bool.and_eq_true] at hb;obtain⟨p1,p2⟩:=Obs.app h2;refine lP (m7 hC hp p1) (aKj (s2:=_) (aEA es hm hb.1 hb.2 (aHe hC hd p2 ?_)) hn);rw [dZ];exact S.le.refl K _
 cases h1
theorem lpE{s:S}(hC:C.Fits K)(hs:List Hn){ψ:Prop}(hψ:ψ)
  (h:fC (T5 C hs s) (False,[],false) ckE=fC (T5 C hs s) (True,[],true) (ckH ψ)):s.le K ((xV (T5 C hs s)).app s):=by
 obtain⟨φ,h1,h2⟩:=aHo hψ h;generalize xV (T5 C hs s)=e at*;unfold T5 at h1;split at h1
 ·rename_i hp;cases h1;exact m7 hC hp h2
 cases h1
end Go.Lift
