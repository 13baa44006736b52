/- Operations that only compute: what each yields on values without addresses. -/
import Derived.Test.YtohillieiccgdaaGreatGLiftA
import Derived.WalkKit
namespace Go.Lift
open Go
def wG:Value→V
 | .bool b=> .t (.bool b)
 | .int k n=> .t (.int k n)
 | .string s=> .t (.str s.data.toList)
 | .slice none 0 0=> .t .nilS
 | .pointer none=> .t .nilP
 | .nilIface=> .t .nilI
 | .nilFunc=> .t .nilF
 |_=> .junk
def cT:Value→V
 | .agg cs=> .agg (cs.toList.map wG)
 |v=>wG v
def S.get(s:S):Operand→V
 | .tmp t=>s.t t
 | .const v=>cT v
 | .func f=> .fn f []
 | .global _=> .junk
theorem zD(β:Map)(w:World)(X:Nat→Prop)(v:Value):RV β w X (wG v) v:=by
 unfold wG
 split
 ·exact .t _ _ (.bool _)
 ·exact .t _ _ (.int _ _)
 ·rename_i s
  have h:=RT.str (w:=w) (X:=X) s.data.toList
  exact .t _ _ (by simpa using h)
 ·exact .t _ _ .nilS
 ·exact .t _ _ .nilP
 ·exact .t _ _ .nilI
 ·exact .t _ _ .nilF
 ·exact .junk _
theorem nC(β:Map)(w:World)(X:Nat→Prop)(v:Value):RV β w X (cT v) v:=by
 unfold cT
 split
 ·rename_i cs
  exact .agg _ _ (by simp) (fun i c u hc hu=>by
   simp only [List.getElem?_map,Array.getElem?_toList,Option.map_eq_some_iff] at hc
   obtain⟨u',h1,h2⟩:=hc
   rw [hu] at h1
   cases h1
   rw [←h2]
   exact zD _ _ _ _)
 ·exact zD _ _ _ _
def RVs(β:Map)(w:World)(X:Nat→Prop):List V→List Value→Prop
 | [],[]=>True
 |v::vs,u::us=>RV β w X v u∧RVs β w X vs us
 |_,_=>False
theorem RVs.mono{β β':Map}{w w':World}{X X':Nat→Prop}: ∀{vs:List V} {us:List Value},RVs β w X vs us→Ext X w w'→(∀b,b<w.heap.size→X' b→X b)→
  MLe β β'→Shaped β w w'→RVs β' w' X' vs us
 | [],[],_,_,_,_,_=>trivial
 |_::_,_::_,h,e,hX,hβ,hs=>⟨h.1.mono e hX hβ hs,RVs.mono h.2 e hX hβ hs⟩
 | [],_::_,h,_,_,_,_=>h.elim
 |_::_,[],h,_,_,_,_=>h.elim
theorem RVs.le: ∀{β:Map} {w:World} {X:Nat→Prop} {vs vs':List V} {us:List Value},RVs β w X vs us→VsLe vs vs'→RVs β w X vs' us
 |_,_,_,[],[],[],_,_=>trivial
 |_,_,_,_::_,_::_,_::_,h,k=>⟨k.1 _ _ _ _ h.1,RVs.le h.2 k.2⟩
 |_,_,_,[],_::_,_,_,k=>k.elim
 |_,_,_,_::_,[],_,_,k=>k.elim
 |_,_,_,[],[],_::_,h,_=>h.elim
 |_,_,_,_::_,_::_,[],h,_=>h.elim
theorem Rel.get{K:Ctx}{β:Map}{s:S}{a:Act}{w:World}(h:Rel K β s a w)(x:Operand):RV β w (own K β s.H) (s.get x) (a.eval x):=by
 cases x with
 |tmp t=>exact h.slots t
 |const v=>exact nC _ _ _ v
 |func f=>exact .fn f [] #[] rfl (fun i c u hc _=>by simp at hc)
 |global g=>exact .junk _
theorem Rel.gets{K:Ctx}{β:Map}{s:S}{a:Act}{w:World}(h:Rel K β s a w): ∀xs:List Operand,RVs β w (own K β s.H) (xs.map s.get) (xs.map a.eval)
 | []=>trivial
 |x::xs=>⟨h.get x,h.gets xs⟩
def Yield(P:Program)(H:Nat→Option E)(o:Oper)(vals:List V)(v:V):Prop:=
 ∀(β:Map) (w:World) (X:Nat→Prop) (ρ:Operand→Value),(∀id e,H id=some e→RE β w X id e)→
  RVs β w X vals (o.op.operands.toList.map ρ)→ ∃u,(execOp ρ o).run P w= .ok (.value u) w∧RV β w X v u
def OpJ(K:Ctx)(o:Oper)(s s':S):Prop:=
 ∀β a w next Q,Rel K β s a w→(∀β' a' w',Rel K β' s' a' w'→next a' w')→o.wp K.P a w next Q
def S.put(s:S)(d:Option Tmp)(v:V):S:=match d with
 |some d=>{s with t:=upd s.t d v}
 |none=>s
theorem Rel.put{K:Ctx}{β:Map}{s:S}{a:Act}{w:World}(h:Rel K β s a w)(d:Option Tmp)(hd: ∀i,d=some i→Nat.blt i K.nt=true){v:V}{u:Value}(hv:RV β w (own K β s.H) v u):
  Rel K β (s.put d v) (a.put d u) w:=by
 cases d with
 |none=>exact h
 |some d=>
  have hlt:d<a.tmps.size:=by rw [h.nt];have:=hd d rfl;simpa [Nat.blt_eq] using this
  refine {h with slots:= ?_,nt:= ?_}
  ·intro i
   simp only [Act.put,S.put]
   by_cases hi:i=d
   ·subst hi
    rw [aF]
    simp only [Array.getD_eq_getD_getElem?,Array.getElem?_setIfInBounds_self_of_lt hlt,Option.getD_some]
    exact hv
   ·rw [aC _ _ _ _ hi]
    simp only [Array.getD_eq_getD_getElem?,Array.getElem?_setIfInBounds_ne (Ne.symm hi)]
    have:=h.slots i
    simpa only [Array.getD_eq_getD_getElem?] using this
  ·simpa [Act.put] using h.nt
theorem xP{K:Ctx}{o:Oper}{s:S}{vals:List V}{v:V}(hd: ∀i,o.dst=some i→Nat.blt i K.nt=true)(hv:VsLe (o.op.operands.toList.map s.get) vals)(h:Yield K.P s.H o vals v):
  OpJ K o s (s.put o.dst v):=by
 intro β a w next Q hr hk
 obtain⟨u,hrun,hu⟩:=h β w (own K β s.H) a.eval (fun id e he=>(hr.heap id e he).2) ((hr.gets _).le hv)
 unfold Oper.wp
 rw [hrun]
 exact hk β _ w (hr.put o.dst hd hu)
section yields
variable {P:Program} {H:Nat→Option E} {d:Option Tmp} {ty:TypeId} {pos:String} {af:Array Edge} {g:Option (Nat×Bool)}
theorem aIo(x:Operand)(v:V):Yield P H ⟨d,.move x,ty,pos,af,g⟩ [v] v:=by
 intro β w X ρ _ ha
 exact⟨ρ x,rfl,ha.1⟩
theorem aAt(x:Operand)(v:V):Yield P H ⟨d,.assign x,ty,pos,af,g⟩ [v] v:=by
 intro β w X ρ _ ha
 exact⟨ρ x,rfl,ha.1⟩
theorem gJ{β:Map}{w:World}{X:Nat→Prop}{b:Bool}{u:Value}(h:RV β w X (.t (.bool b)) u):u= .bool b:=by
 cases h with|t _ _ h=>cases h with|bool=>rfl
theorem aY{β:Map}{w:World}{X:Nat→Prop}{k:IntKind}{n:Int}{u:Value}(h:RV β w X (.t (.int k n)) u):u= .int k n:=by
 cases h with|t _ _ h=>cases h with|int=>rfl
theorem cV{β:Map}{w:World}{X:Nat→Prop}{l:List UInt8}{u:Value}(h:RV β w X (.t (.str l)) u):u= .string ⟨l.toArray⟩:=by
 cases h with|t _ _ h=>cases h with|str=>rfl
theorem aAm(c x y:Operand)(v v':V):Yield P H ⟨d,.pick c x y,ty,pos,af,g⟩ [.t (.bool true),v,v'] v:=by
 intro β w X ρ _ ha
 refine⟨ρ x,?_,ha.2.1⟩
 have:=gJ ha.1
 simp [execOp,this,asBool]
theorem U1(c x y:Operand)(v v':V):Yield P H ⟨d,.pick c x y,ty,pos,af,g⟩ [.t (.bool false),v,v'] v':=by
 intro β w X ρ _ ha
 refine⟨ρ y,?_,ha.2.2.1⟩
 have:=gJ ha.1
 simp [execOp,this,asBool]
theorem aJt(x y:Operand)(t t':TypeId)(k:IntKind)(m n:Int):Yield P H ⟨d,.binOp .add t x y t',ty,pos,af,g⟩ [.t (.int k m),.t (.int k n)] (.t (.int k (k.wrap (m+n)))):=by
 intro β w X ρ _ ha
 refine⟨.int k (k.wrap (m+n)),?_,.t _ _ (.int _ _)⟩
 simp [execOp,aY ha.1,aY ha.2.1,eqGuard,binOp,Op.intArith]
end yields
end Go.Lift
