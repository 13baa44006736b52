/- An empty literal that is to grow; giving an array up ahead of an operation. -/
import Derived.Test.YtlbojjldejlgaaaGreatTLiftR
namespace Go.Lift
open Go
section
variable {K:Ctx} {s:S} {d:Option Tmp} {ty:TypeId} {pos:String} {af:Array Edge} {g:Option (Nat×Bool)}
variable {t:TypeId} {u:TypeDesc} {z:Value} {size bytes:Nat}
theorem aHL(k:Nat)(hk:s.u k=false)(e:TypeId)(hd: ∀i,d=some i→Nat.blt i K.nt=true)(hu:K.P.underlying t=some (.slice e))(he:TI K.P e u z size bytes):
  OpJ K ⟨d,.buildSlice t 0 #[],ty,pos,af,g⟩ s ((s.new k (.arr e 1 size [])).put d (.msl k 1 size 0 0)):=by
 intro β a w next Q hr hk'
 have hrun:(execOp a.eval ⟨d,.buildSlice t 0 #[],ty,pos,af,g⟩).run K.P w= .ok (.value (.slice (some ⟨w.heap.size,0,none⟩) 0 0)) (w.alloc (.cells #[] e)):=by
  simp only [execOp,Instr.buildSlice,Sem.run_bind,run_underlying hu,Result.andThen_ok,he.run_sizeOf,Nat.zero_mul,show¬(0>2^24) by decide,if_false,if_true];simp only [Instr.fill,Sem.run_bind,Sem.run_pure,Result.andThen_ok,show Array.range 0= #[] from by simp [Array.range],List.map_toArray,List.map_nil];rfl
 unfold Oper.wp;rw [hrun];have hnew:=hr.new k 1 hk #[] e (.arr e 1 size []) fun β' X' w' hw hn hrv=>⟨kF _,Or.inr ⟨w.heap.size,_,hn,by subst hw;exact bG _ _,by simp,fun _ h=>by simp at h,fun i j row x u h=>by simp at h⟩⟩
 have hsz:(w.alloc (.cells #[] e)).heap.size=w.heap.size+1:=World.size_alloc ..;have hsh:(w.alloc (.cells #[] e)).shape? w.heap.size=some (e,0):=by unfold World.shape?;rw [bG];simp
 have hv:RV (β.put k (some (some w.heap.size,1))) (w.alloc (.cells #[] e)) (own K (β.put k (some (some w.heap.size,1))) (s.new k (.arr e 1 size [])).H) (.msl k 1 size 0 0)
   (.slice (some ⟨w.heap.size,0*size,none⟩) 0 0):= .msl k 1 size 0 0 0 w.heap.size 0 e (kF _) (aI _ _ _) (hsz▸vAV _) hsh (by simp) (kF _) (by unfold maxLen;omega)
 rw [F7] at hv;exact hk' _ _ _ (hnew.put d hd hv)
end
end Go.Lift
