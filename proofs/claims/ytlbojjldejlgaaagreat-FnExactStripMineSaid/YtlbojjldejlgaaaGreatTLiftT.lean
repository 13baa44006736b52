/- Structs of ints held against each other. -/
import Derived.Test.YtlbojjldejlgaaaGreatTLiftS
import Derived.Laws.StructEq
namespace Go.Lift
open Go
def aHT:Option TypeDesc→Bool
 |some (.int .i64)=>true
 |_=>false
theorem aHS{o:Option TypeDesc}(h:aHT o=true):o=some (.int .i64):=by
 unfold aHT at h;split at h
 ·rfl
 cases h
def m5(P:Program):List Field→Nat→Bool
 | [],_=>true
 |f::fs,i=>f.name != "_" &&aHT (P.underlying f.type)&&Nat.beq f.offset i&&m5 P fs (i+1)
theorem jP{P:Program}{w:World}{xs ys:Array Value}: ∀(fs:List Field) (i:Nat) (ms ns:List Int),m5 P fs i=true→ms.length=fs.length→ns.length=fs.length→
  (∀(j:Nat) m,ms[j]? =some m→xs[i+j]? =some (.int .i64 m))→(∀(j:Nat) m,ns[j]? =some m→ys[i+j]? =some (.int .i64 m))→
  (Op.eqFields 9999 xs ys fs).run P w= .ok (decide (ms=ns)) w
 | [],i,ms,ns,_,h1,h2,_,_=>by
  have e1:ms=[]:=by simpa using h1
  have e2:ns=[]:=by simpa using h2
  subst e1;subst e2;simp [Op.eqFields]
 |f::fs,i,[],ns,_,h1,_,_,_=>by simp at h1
 |f::fs,i,m::ms,[],_,_,h2,_,_=>by simp at h2
 |f::fs,i,m::ms,n::ns,hf,h1,h2,hx,hy=>by
  simp only [m5,Bool.and_eq_true] at hf;obtain⟨⟨⟨hn,hu⟩,ho⟩,hr⟩:=hf;have hu:=aHS hu;have ho:=fV ho;have hn':f.name≠ "_" :=by simpa using hn
  have hp: ∀(cs:Array Value) (v:Value),cs[i]? =some v→(part f.type cs f.offset).run P w= .ok v w:=by
   intro cs v hv;rw [ho];simp [part,isAgg,run_underlying hu,hv]
  have hx0:=hx 0 m rfl;have hy0:=hy 0 n rfl;have ih:=jP (P:=P) (w:=w) fs (i+1) ms ns hr (by simpa using h1) (by simpa using h2)
   (fun j q hq=>by rw [show i+1+j=i+(j+1) by omega];exact hx (j+1) q (by simpa using hq))
   fun j q hq=>by rw [show i+1+j=i+(j+1) by omega];exact hy (j+1) q (by simpa using hq)
  simp only [Op.eqFields,hn',ne_eq,not_false_eq_true,if_true,Sem.run_bind,hp xs _ hx0,hp ys _ hy0,Result.andThen_ok,run_equalIn_int w 9998 f.type .i64 .i64 m n hu];by_cases hmn:m=n
  ·subst hmn;simp [ih]
  simp [hmn]
section
variable {P:Program} {H:Nat→Option E} {d:Option Tmp} {ty:TypeId} {pos:String} {af:Array Edge} {g:Option (Nat×Bool)}
theorem yP{β:Map}{w:World}{X:Nat→Prop}{ms:List Int}{u:Value}(h:RV β w X (.agg (ms.map vI)) u): ∃us:Array Value,u= .agg us∧ ∀(j:Nat) m,ms[j]? =some m→us[j]? =some (.int .i64 m):=by
 cases h with
 |agg _ us hl hr=>
  refine⟨us,rfl,fun j m hj=>?_⟩;have hlt:j<us.size:=by
   rw [hl,I2];exact(cC.1 hj).1
  have hu:us[j]? =some us[j]:=vAI hlt;have h1:=hr j (vI m) _ (by rw [zG,hj];rfl) hu;rw [hu];generalize us[j]=q at h1;cases h1 with|t _ _ h=>cases h;rfl
theorem aDl(x y:Operand)(t t':TypeId)(ms ns:List Int)(hu:P.underlying t=some (.struct (P.fieldsOf t)))(hs:P.stoodInHeld t=false)(hg:P.eqGuardType P.depth t=false)
  (hf:m5 P (P.fieldsOf t).toList 0=true) (h1:Nat.beq ms.length (P.fieldsOf t).size=true) (h2:Nat.beq ns.length (P.fieldsOf t).size=true):
  Yield P H ⟨d,.binOp .neq t x y t',ty,pos,af,g⟩ [.agg (ms.map vI),.agg (ns.map vI)] (vB (!decide (ms=ns))):=by
 intro β w X ρ _ ha;obtain⟨us,e1,k1⟩:=yP ha.1;obtain⟨vs,e2,k2⟩:=yP ha.2.1;refine⟨.bool (!decide (ms=ns)),?_,.t _ _ (.bool _)⟩;have h1:=fV h1;have h2:=fV h2;have he:=jP (P:=P) (w:=w) (xs:=us) (ys:=vs) (P.fieldsOf t).toList 0 ms ns hf (by simpa using h1) (by simpa using h2) (fun j m hj=>by simpa using k1 j m hj) fun j m hj=>by simpa using k2 j m hj
 have e1:ρ x=_:=e1;have e2:ρ y=_:=e2;simp only [execOp,e1,e2,Sem.run_bind,run_eqGuard_agg w .neq t x y us vs hg,Result.andThen_ok,run_neq_struct,run_equalIn_struct w 9999 t us vs hu hs,he,Sem.run_pure]
theorem aDs(x y:Operand)(t t':TypeId)(ms ns:List Int)(hu:P.underlying t=some (.struct (P.fieldsOf t)))(hs:P.stoodInHeld t=false)(hg:P.eqGuardType P.depth t=false)
  (hf:m5 P (P.fieldsOf t).toList 0=true) (h1:Nat.beq ms.length (P.fieldsOf t).size=true) (h2:Nat.beq ns.length (P.fieldsOf t).size=true):
  Yield P H ⟨d,.binOp .eql t x y t',ty,pos,af,g⟩ [.agg (ms.map vI),.agg (ns.map vI)] (vB (decide (ms=ns))):=by
 intro β w X ρ _ ha;obtain⟨us,e1,k1⟩:=yP ha.1;obtain⟨vs,e2,k2⟩:=yP ha.2.1;refine⟨.bool (decide (ms=ns)),?_,.t _ _ (.bool _)⟩;have h1:=fV h1;have h2:=fV h2;have he:=jP (P:=P) (w:=w) (xs:=us) (ys:=vs) (P.fieldsOf t).toList 0 ms ns hf (by simpa using h1) (by simpa using h2) (fun j m hj=>by simpa using k1 j m hj) fun j m hj=>by simpa using k2 j m hj
 have e1:ρ x=_:=e1;have e2:ρ y=_:=e2;simp only [execOp,e1,e2,Sem.run_bind,run_eqGuard_agg w .eql t x y us vs hg,Result.andThen_ok,run_eql_struct,run_equalIn_struct w 9999 t us vs hu hs,he,Sem.run_pure]
end
def SE(P:Program)(t:TypeId)(n:Nat):Prop:=P.underlying t=some (.struct (P.fieldsOf t))∧P.stoodInHeld t=false∧P.eqGuardType P.depth t=false∧m5 P (P.fieldsOf t).toList 0=true∧(P.fieldsOf t).size=n
section
variable {P:Program} {H:Nat→Option E} {d:Option Tmp} {ty:TypeId} {pos:String} {af:Array Edge} {g:Option (Nat×Bool)}
theorem aGI(x y:Operand)(t t':TypeId){n:Nat}(ms ns:List Int)(h:SE P t n)(h1:Nat.beq ms.length n=true)(h2:Nat.beq ns.length n=true):
  Yield P H ⟨d,.binOp .neq t x y t',ty,pos,af,g⟩ [.agg (ms.map vI),.agg (ns.map vI)] (vB (!decide (ms=ns))):=by obtain⟨a,b,c,e,f⟩:=h;exact aDl x y t t' ms ns a b c e (by rw [f];exact h1) (by rw [f];exact h2)
theorem aGK(x y:Operand)(t t':TypeId){n:Nat}(ms ns:List Int)(h:SE P t n)(h1:Nat.beq ms.length n=true)(h2:Nat.beq ns.length n=true):
  Yield P H ⟨d,.binOp .eql t x y t',ty,pos,af,g⟩ [.agg (ms.map vI),.agg (ns.map vI)] (vB (decide (ms=ns))):=by obtain⟨a,b,c,e,f⟩:=h;exact aDs x y t t' ms ns a b c e (by rw [f];exact h1) (by rw [f];exact h2)
end
end Go.Lift
