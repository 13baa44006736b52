/- Short forms of regions whose effect is reckoned. -/
import Derived.Test.YtcihigfifglboabGreatELiftSq
import Derived.Test.YtcihigfifglboabGreatELiftEff
set_option linter.unusedVariables false
namespace Go.Lift
open Go
variable {K:Ctx} {C:Cfg}
theorem eK{id:Nat}{l:List Oper}{s:S}{Q:Exit→S→Prop}(hC:C.Fits K)(A:List An)(hn:Q .normal ((xV (evL C l.toArray l (AnH A) s)).app s))
  (h:fC (evL C l.toArray l (AnH A) s) (False,[],false) ckE=fC (evL C l.toArray l (AnH A) s) (True,[],true) (ckH (AnP A)):=by kernel_rfl):gF K (.region id l.toArray false) s Q:=rgE hC (AnH A) (AnK A) h hn
theorem eQ{id:Nat}{l:List Oper}{y:Code}{s:S}{Q:Exit→S→Prop}(hC:C.Fits K)(A:List An)(hn:gF K y ((xV (evL C l.toArray l (AnH A) s)).app s) Q)
  (h:fC (evL C l.toArray l (AnH A) s) (False,[],false) ckE=fC (evL C l.toArray l (AnH A) s) (True,[],true) (ckH (AnP A)):=by kernel_rfl):gF K (.seq (.region id l.toArray false) y) s Q:=U9 (rgE hC (AnH A) (AnK A) h hn)
theorem bX{id:Nat}{l:List Oper}{s:S}{Q:Exit→S→Prop}(hC:C.Fits K)(hn:Q .normal ((xV (evL C l.toArray l [] s)).app s))
  (h:fC (evL C l.toArray l [] s) (False,[],false) ckE=fC (evL C l.toArray l [] s) (True,[],true) (ckH True):=by kernel_rfl):gF K (.region id l.toArray false) s Q:=rgE hC [] trivial h hn
theorem aH{id:Nat}{l:List Oper}{y:Code}{s:S}{Q:Exit→S→Prop}(hC:C.Fits K)(hn:gF K y ((xV (evL C l.toArray l [] s)).app s) Q)
  (h:fC (evL C l.toArray l [] s) (False,[],false) ckE=fC (evL C l.toArray l [] s) (True,[],true) (ckH True):=by kernel_rfl):gF K (.seq (.region id l.toArray false) y) s Q:=U9 (rgE hC [] trivial h hn)
theorem eD{id:Nat}{l:List Oper}{s:S}{Q:Exit→S→Prop}(hC:C.Fits K)(hm:K.P.follows .mixedOrders=true)(A:List An)(hn:Q .normal ((xV (evR C l (AnH A) s)).app s))
  (h:fC (evR C l (AnH A) s) (False,[],false) ckE=fC (evR C l (AnH A) s) (True,[],true) (ckH (AnP A)):=by kernel_rfl):gF K (.region id l.toArray true) s Q:=rdE hC hm (AnH A) (AnK A) h hn
theorem eL{s:S}(hC:C.Fits K)(hs:List Hn)(h:fC (T5 C hs s) (False,[],false) ckE=fC (T5 C hs s) (True,[],true) (ckH True):=by kernel_rfl):s.le K ((xV (T5 C hs s)).app s):=lpE hC hs trivial h
theorem eP{s:S}(hC:C.Fits K)(hs:List Hn){ψ:Prop}(hψ:ψ)(h:fC (T5 C hs s) (False,[],false) ckE=fC (T5 C hs s) (True,[],true) (ckH ψ):=by kernel_rfl):s.le K ((xV (T5 C hs s)).app s):=lpE hC hs hψ h
theorem wL{c:Code}{s:S}{Q:Exit→S→Prop}(hC:C.Fits K)(hs:List Hn)(k:gF K c ((xV (T5 C hs s)).app s) Q)(h:fC (T5 C hs s) (False,[],false) ckE=fC (T5 C hs s) (True,[],true) (ckH True):=by kernel_rfl):gF K c s Q:=lP (lpE hC hs trivial h) k
theorem wP{c:Code}{s:S}{Q:Exit→S→Prop}(hC:C.Fits K)(hs:List Hn){ψ:Prop}(hψ:ψ)(k:gF K c ((xV (T5 C hs s)).app s) Q)(h:fC (T5 C hs s) (False,[],false) ckE=fC (T5 C hs s) (True,[],true) (ckH ψ):=by kernel_rfl):gF K c s Q:=lP (lpE hC hs hψ h) k
theorem xE{s:S}{Q:Exit→S→Prop}(hC:C.Fits K)(a b:Nat)(k:Q .ret ((xV (T5 C [.ren a b 0] s)).app s):=by exact eW)
  (h:fC (T5 C [.ren a b 0] s) (False,[],false) ckE=fC (T5 C [.ren a b 0] s) (True,[],true) (ckH True):=by kernel_rfl):gF K .ret s Q:=qw (eL hC [.ren a b 0] h) (qr k)
end Go.Lift
