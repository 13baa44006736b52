/- What is drawn: nests, accesses, expressions, statements. -/
import Derived.Test.YtcihigfifglboaaGreatUCore2
set_option maxRecDepth 110000000
set_option linter.unusedVariables false
namespace Go.Lift
open Go
def BA(B:Nat)(a:Affine):Prop:=a.coefs.length≤B
def BAs(B:Nat)(l:List Affine):Prop:=l.length≤B∧ ∀a∈l,BA B a
def BN(B:Nat)(nest:List Loop):Prop:=nest.length≤B∧ ∀l∈nest,BAs B l.lo∧BAs B l.hi
def BE(B:Nat):Nat→Expr→Prop
 |0,_=>False
 |L+1,e=>e.kids.length≤B∧BA B e.index∧BAs B e.read.subs∧ ∀k∈e.kids,BE B L k
def BS(B:Nat)(s:Stmt):Prop:=BAs B s.write.subs∧BE B 5 s.value
def BPt(B:Nat)(x:Part):Prop:=BN B x.nest∧x.body.length≤B∧ ∀s∈x.body,BS B s
def BR(B:Nat)(l:List Arr):Prop:=l.length≤B∧ ∀x∈l,x.dims.length≤B
def BG(B:Nat)(p:Prog):Prop:=BR B p.arrays∧p.parts.length≤B∧ ∀x∈p.parts,BPt B x
theorem BA.mono{B C:Nat}(h:B≤C){a:Affine}(ha:BA B a):BA C a:=H1 ha h
theorem BAs.mono{B C:Nat}(h:B≤C){l:List Affine}(ha:BAs B l):BAs C l:=⟨H1 ha.1 h,fun a hm=>(ha.2 a hm).mono h⟩
theorem BN.mono{B C:Nat}(h:B≤C){l:List Loop}(ha:BN B l):BN C l:=⟨H1 ha.1 h,fun a hm=>⟨(ha.2 a hm).1.mono h,(ha.2 a hm).2.mono h⟩⟩
theorem BE.mono{B C:Nat}(h:B≤C): ∀{L M:Nat} {e:Expr},L≤M→BE B L e→BE C M e
 |0,_,_,_,he=>he.elim
 |L+1,0,_,hl,_=>by omega
 |L+1,M+1,e,hl,he=>⟨H1 he.1 h,he.2.1.mono h,he.2.2.1.mono h,fun k hk=>BE.mono h (by omega) (he.2.2.2 k hk)⟩
theorem BS.mono{B C:Nat}(h:B≤C){s:Stmt}(hs:BS B s):BS C s:=⟨hs.1.mono h,hs.2.mono h (iV _)⟩
theorem BPt.mono{B C:Nat}(h:B≤C){s:Part}(hs:BPt B s):BPt C s:=⟨hs.1.mono h,H1 hs.2.1 h,fun s hm=>(hs.2.2 s hm).mono h⟩
theorem BR.mono{B C:Nat}(h:B≤C){s:List Arr}(hs:BR B s):BR C s:=⟨H1 hs.1 h,fun s hm=>H1 (hs.2 s hm) h⟩
theorem BG.mono{B C:Nat}(h:B≤C){p:Prog}(hs:BG B p):BG C p:=⟨hs.1.mono h,H1 hs.2.1 h,fun s hm=>(hs.2.2 s hm).mono h⟩
theorem fM{α:Type}{l:List α}{i:Int}(h:0≤i∧i<l.length)(x:α):gP l i x=some (l.set i.toNat x):=by unfold gP;rw [if_pos h]
end Go.Lift
