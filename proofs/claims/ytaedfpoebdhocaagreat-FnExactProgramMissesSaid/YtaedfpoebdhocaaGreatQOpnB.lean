/- A law of a program and a number: from its contract to its row. -/
import Derived.Test.YtaedfpoebdhocaaGreatQOpnA
set_option maxRecDepth 100000
set_option linter.unusedVariables false
namespace Go.Lift
open Go Go.ChangeShapes Go.WideShapes Go.ChangeAt Go.RowKit
section
variable {H:Type} {enc:TypeId×Value→H} {P:Program}
theorem aBU{W W':World}(h:Ext (fun _=>False) W W'):Below W.heap.size W W':=⟨h.os,h.tape,h.output,h.size,fun k hk=>h.keep k hk fun h=>h⟩
theorem aBw{W:World}{base:Nat}{v:Value}{d:DataW H}{p:List MemPlace}(K:PT P)(hval:Value.okWide P W .any base K.Pr v)(h:DataW.Trod enc P W 0 (fun _=>true) true K.Pr v d p):
  ∃(m:Nat) (x:Prog),QP maxLen m x∧RV eB W (fun _=>False) (V.agg [vM aT x.arrays,vM aR x.parts]) v:=by
 obtain⟨hk,fs,hu,_⟩:=id K.fPr;obtain⟨cs,rfl,hcs⟩:=okWide_struct hu hval;obtain⟨n,hn⟩:=h;obtain⟨x,hx,hr⟩:=aCW K _ _ hn;refine⟨n,x,hx,.agg _ _ (by rw [hcs,hk];rfl) fun i c u hc hu=>?_⟩;have hu':cs.toList[i]? =some u:=by simpa using hu
 match i with
 |0=>simp at hc;subst hc;exact .t _ _ (hr.at (j:=0) rfl hu')
 |1=>simp at hc;subst hc;exact .t _ _ (hr.at (j:=1) rfl hu')
 |i+2=>simp at hc
theorem aGD{f:FuncId}{fn:Func}{s:ChangeSpec}{tb:TypeId}{G:Glob}{W:World}{base:Nat}{args:Array Value}{ds gs:List (DataW H)}{before:List MemPlace}(K:PT P)
  (hp:fn.params= #[K.Pr,K.I]) (hr:fn.resultTypes= #[tb]) (hb:P.underlying tb=some .bool) (hv:s.vars=[]) (hs: ∀d d',s.fn H [d,d']={results:=[.lit (.bool true)],args:=[d,d']})
  (hlo:laidOutB P=true) (hrd:P.readableRec K.Pr=true) (hsz:K.Pr<P.types.size) (hrd1:P.readableRec K.I=true) (hsz1:K.I<P.types.size)
  (hval: ∀(j:Nat) t v,fn.params[j]? =some t→args[j]? =some v→Value.okWide P W .any base t v) (hW:DataW.Whole enc P fn.params.toList s.vars false W args.toList ds gs before) (hG:G.ok W)
  (law: ∀(m:Nat) (x:Prog) (k:Int),QP maxLen m x→PCC P G f [V.agg [vM aT x.arrays,vM aR x.parts],vI k] (vB true)):Calls P f args W fun e W'=> ∃v,e= .returned v∧s.post enc P fn false true false false W args v W':=by
 have hW':=hW;obtain⟨p,q,hA0,hV,rfl,hfz,hnd⟩:=hW;rw [hv] at hV;obtain⟨rfl,rfl⟩:=trodVars_none hV;rw [hp] at hval hA0;obtain⟨v0,v1,d0,d1,p0,p1,rfl,rfl,rfl,h0,h1⟩:=trodAll_two hA0;obtain⟨m,x,hx,hr0⟩:=aBw (d:=d0) K (hval 0 _ v0 rfl rfl) h0;obtain⟨k,rfl⟩:=okWide_int K.uI (hval 1 _ v1 rfl rfl);refine((law m x k hx).2 W (fun _=>False) [v0,.int .i64 k] hG (fun _ h=>h.elim) ⟨hr0,.t _ _ (.int _ _),trivial⟩).mono ?_;rintro e W' ⟨u,rfl,hE,hu⟩;obtain rfl:=aEZ hu;have hB:=aBU hE;refine⟨_,rfl,[d0,d1],[],p0++p1++[],[],p0++p1,[],hW',?_,?_,?_,aDi hE _,fun h=>by cases h⟩
 ·rw [hr,show([d0,d1]++[]:List (DataW H))=[d0,d1] from rfl,hs];exact trodAll_mk1 (shut_bool hb _)
 ·rw [hp,show([d0,d1]++[]:List (DataW H))=[d0,d1] from rfl,hs];exact trodAll_mk2 (hB.trod hlo hrd hsz h0 fun x hx=>hW'.lt x (by simp [hx])) (hB.trod hlo hrd1 hsz1 h1 fun x hx=>hW'.lt x (by simp [hx]))
 rw [hv,show([d0,d1]++[]:List (DataW H))=[d0,d1] from rfl,hs];exact rfl
end
end Go.Lift
