/- A law of programs, lists of numbers and instances: from its contract to its row. -/
import Derived.Test.YtlbojjldejlgaaaGreatTOpnA
set_option maxRecDepth 100000
set_option linter.unusedVariables false
namespace Go.Lift
open Go Go.ChangeShapes Go.WideShapes Go.ChangeAt Go.RowKit
section
variable {H:Type} {enc:TypeId×Value→H} {P:Program}
theorem aGr{W W':World}(h:Ext (fun _=>False) W W'):Below W.heap.size W W':=⟨h.os,h.tape,h.output,h.size,fun k hk=>h.keep k hk fun h=>h⟩
def Op1(H:Type)(enc:TypeId×Value→H)(P:Program)(W:World)(base:Nat)(t:TypeId)(D:V→Prop):Prop:=
 ∀(v:Value) (d:DataW H) (p:List MemPlace),Value.okWide P W .any base t v→DataW.Trod enc P W 0 (fun _=>true) true t v d p→ ∃x,RV d8 W (fun _=>False) x v∧D x
def OpN(H:Type)(enc:TypeId×Value→H)(P:Program)(W:World)(base:Nat)(ts:List TypeId)(C:List V→Prop):Prop:=
 ∀(vs:List Value) (ds:List (DataW H)) (ps:List MemPlace),(∀(j:Nat) t v,ts[j]? =some t→vs[j]? =some v→Value.okWide P W .any base t v)→DataW.TrodAll enc P W 0 (fun _=>true) true ts vs ds ps→ ∃xs,RVs d8 W (fun _=>False) xs vs∧C xs
theorem aLA{W:World}{base:Nat}{C:List V→Prop}(h:C []):OpN H enc P W base [] C:=fun vs ds ps _ hA=>by obtain⟨rfl,_,_⟩:=trodAll_nil hA;exact⟨[],trivial,h⟩
theorem G5{W:World}{base:Nat}{t:TypeId}{ts:List TypeId}{D:V→Prop}{C:List V→Prop}(h1:Op1 H enc P W base t D)(h2: ∀x,D x→OpN H enc P W base ts fun xs=>C (x::xs)):OpN H enc P W base (t::ts) C:=fun vs ds ps hv hA=>by obtain⟨v,vs',d,ds',p,q,rfl,rfl,rfl,hd,hrest⟩:=trodAll_cons hA;obtain⟨x,hx,hD⟩:=h1 v d p (hv 0 t v rfl rfl) hd;obtain⟨xs,hxs,hC⟩:=h2 x hD vs' ds' q (fun j t v h h'=>hv (j+1) t v h h') hrest;exact⟨x::xs,⟨hx,hxs⟩,hC⟩
theorem aJX{W:World}{base:Nat}(K:PT P):Op1 H enc P W base K.Pr (fun x=> ∃(m:Nat) (p:Prog),QP maxLen m p∧x=V.agg [vM aJ p.arrays,vM aE p.parts]):=fun v d p hval h=>by
 obtain⟨hk,fs,hu,_⟩:=id K.fPr;obtain⟨cs,rfl,hcs⟩:=okWide_struct hu hval;obtain⟨n,hn⟩:=h;obtain⟨x,hx,hr⟩:=aHz K _ _ hn;refine⟨_,.agg _ _ (by rw [hcs,hk];rfl) fun i c u hc hu=>?_,n,x,hx,rfl⟩;have hu':cs.toList[i]? =some u:=by simpa using hu
 match i with
 |0=>simp at hc;subst hc;exact .t _ _ (hr.at (j:=0) rfl hu')
 |1=>simp at hc;subst hc;exact .t _ _ (hr.at (j:=1) rfl hu')
 |i+2=>simp at hc
theorem aDM{W:World}{base:Nat}(K:PT P):Op1 H enc P W base K.I (fun x=> ∃k:Int,x=vI k):=fun v d p hval h=>by obtain⟨k,rfl⟩:=okWide_int K.uI hval;exact⟨_,.t _ _ (.int _ _),k,rfl⟩
theorem uY{W W':World}(hlo:laidOutB P=true)(hB:Below W.heap.size W W'): ∀{ts:List TypeId} {vs:List Value} {ds:List (DataW H)} {ps:List MemPlace},(∀t∈ts,P.readableRec t=true∧t<P.types.size)→
  DataW.TrodAll enc P W 0 (fun _=>true) true ts vs ds ps→(∀x∈ps,x.block<W.heap.size)→ds.length=ts.length∧DataW.TrodAll enc P W' 0 (fun b=>decide (b<W.heap.size)) true ts vs ds ps
 | [],vs,ds,ps,_,h,_=>by
  obtain⟨rfl,rfl,rfl⟩:=trodAll_nil h;exact⟨rfl,trodAll_mk0⟩
 |t::ts,vs,ds,ps,hr,h,hlt=>by obtain⟨v,vs',d,ds',p,q,rfl,rfl,rfl,hd,hrest⟩:=trodAll_cons h;obtain⟨h1,h2⟩:=uY hlo hB (fun t ht=>hr t (r9 _ ht)) hrest fun x hx=>hlt x (vAX _ hx);have ht:=hr t (uX ..);exact⟨by simp [h1],trodAll_cons_mk (hB.trod hlo ht.1 ht.2 hd fun x hx=>hlt x (vAR _ hx)) h2⟩
theorem aL3{ts:List TypeId}(h:ts.all (fun t=>P.readableRec t&&decide (t<P.types.size))=true): ∀t∈ts,P.readableRec t=true∧t<P.types.size:=fun t ht=>by have:=vAH.1 h t ht;simp only [Bool.and_eq_true,decide_eq_true_eq] at this;exact this
theorem aNi{f:FuncId}{fn:Func}{s:ChangeSpec}{tb:TypeId}{G:Glob}{W:World}{base:Nat}{args:Array Value}{ds gs:List (DataW H)}{before:List MemPlace}(ts:List TypeId)
  (hp:fn.params=ts.toArray) (hr:fn.resultTypes= #[tb]) (hb:P.underlying tb=some .bool) (hv:s.vars=[]) (hs: ∀ds:List (DataW H),ds.length=ts.length→s.fn H ds={results:=[.lit (.bool true)],args:=ds})
  (hlo:laidOutB P=true) (hrd: ∀t∈ts,P.readableRec t=true∧t<P.types.size)
  (hval: ∀(j:Nat) t v,fn.params[j]? =some t→args[j]? =some v→Value.okWide P W .any base t v) (hW:DataW.Whole enc P fn.params.toList s.vars false W args.toList ds gs before) (hG:G.ok W)
  (hop:OpN H enc P W base ts fun xs=>PCC P G f xs (vB true)):Calls P f args W fun e W'=> ∃v,e= .returned v∧s.post enc P fn false true false false W args v W':=by
 have hW':=hW;obtain⟨p,q,hA0,hV,rfl,hfz,hnd⟩:=hW;rw [hv] at hV;obtain⟨rfl,rfl⟩:=trodVars_none hV;rw [hp] at hval hA0;obtain⟨xs,hxs,law⟩:=hop args.toList ds p (fun j t v h h'=>hval j t v (by simpa using h) (by simpa using h')) hA0;refine(law.2 W (fun _=>False) args.toList hG (fun _ h=>h.elim) hxs).mono ?_;rintro e W' ⟨u,rfl,hE,hu⟩;obtain rfl:=aJQ hu;obtain⟨hl,hA'⟩:=uY hlo (aGr hE) hrd hA0 fun x hx=>hW'.lt x (by simp [hx]);refine⟨_,rfl,ds,[],p++[],[],p,[],hW',?_,?_,?_,aH5 hE _,fun h=>by cases h⟩
 ·rw [hr,vBt,hs ds hl];exact trodAll_mk1 (shut_bool hb _)
 ·rw [hp,vBt,hs ds hl];exact hA'
 rw [hv,vBt,hs ds hl];exact rfl
end
end Go.Lift
