/- The draws of programs from texts. -/
import Derived.Test.YtcihigfifglboabGreatEDraw1
set_option maxRecDepth 100000
set_option linter.unusedVariables false
namespace Go.Lift
open Go
def bAs(B:Nat)(l:List Affine):Bool:=Nat.ble l.length B&&l.all fun a=>Nat.ble a.coefs.length B
def bN(B:Nat)(nest:List Loop):Bool:=Nat.ble nest.length B&&nest.all fun l=>bAs B l.lo&&bAs B l.hi
def bE(B:Nat):Nat→Expr→Bool
 |0,_=>false
 |L+1,e=>Nat.ble e.kids.length B&&(Nat.ble e.index.coefs.length B&&(bAs B e.read.subs&&e.kids.all (bE B L)))
def bS(B:Nat)(s:Stmt):Bool:=bAs B s.write.subs&&bE B 5 s.value
def bPt(B:Nat)(x:Part):Bool:=bN B x.nest&&(Nat.ble x.body.length B&&x.body.all (bS B))
def bR(B:Nat)(l:List Arr):Bool:=Nat.ble l.length B&&l.all fun x=>Nat.ble x.dims.length B
def bG(B:Nat)(p:Prog):Bool:=bR B p.arrays&&(Nat.ble p.parts.length B&&p.parts.all (bPt B))
theorem aEg{B:Nat}{l:List Affine}(h:bAs B l=true):BAs B l:=by simp only [bAs,Bool.and_eq_true,List.all_eq_true] at h;exact⟨pZ h.1,fun a ha=>pZ (h.2 a ha)⟩
theorem aRf{B:Nat}{l:List Loop}(h:bN B l=true):BN B l:=by simp only [bN,Bool.and_eq_true,List.all_eq_true] at h;exact⟨pZ h.1,fun a ha=>⟨aEg (h.2 a ha).1,aEg (h.2 a ha).2⟩⟩
theorem aOT{B:Nat}: ∀{L:Nat} {e:Expr},bE B L e=true→BE B L e
 |0,e,h=>by simp [bE] at h
 |L+1,e,h=>by simp only [bE,Bool.and_eq_true,List.all_eq_true] at h;exact⟨pZ h.1,pZ h.2.1,aEg h.2.2.1,fun k hk=>aOT (h.2.2.2 k hk)⟩
theorem aRg{B:Nat}{p:Prog}(h:bG B p=true):BG B p:=by simp only [bG,bR,bPt,bS,Bool.and_eq_true,List.all_eq_true] at h;exact⟨⟨pZ h.1.1,fun a ha=>pZ (h.1.2 a ha)⟩,pZ h.2.1,fun x hx=>⟨aRf (h.2.2 x hx).1,pZ (h.2.2 x hx).2.1,fun s hs=>⟨aEg ((h.2.2 x hx).2.2 s hs).1,aOT ((h.2.2 x hx).2.2 s hs).2⟩⟩⟩
def aLE(hd t:List UInt8):Bool:=match cat hd t with
 |some x=>match gA N x with
  |some (p,_)=>bG 10 p
  |none=>false
 |none=>false
theorem aLD{hd:List UInt8}{l:List (List UInt8)}{t:List UInt8}(h:l.all (aLE hd)=true)(ht:t∈l): ∃x q,cat hd t=some x∧gA N x=some q∧BG 10 q.1:=by
 have h:=vAI.1 h t ht;unfold aLE at h;cases hx:cat hd t with
 |none=>rw [hx] at h;cases h
 |some x=>
  rw [hx] at h;dsimp only at h;cases hq:gA N x with
  |none=>rw [hq] at h;cases h
  |some q=>rw [hq] at h;exact⟨x,q,rfl,hq,aRg h⟩
theorem aNt{R:Type}{hd:List UInt8}{l:List (List UInt8)}{k:Int}{r:L16Rd}(hr:RdOk k r)(hk:k≤1000000000)(hl:l≠[])(h:l.all (aLE hd)=true){K:List UInt8×L16Rd→List UInt8→Prog×Bool→Option R}{Q:R→Prop}
  (hK: ∀x1 x2 x3,RdOk (k+1) x1.2→BG 10 x3.1→Ev (K x1 x2 x3) Q):Ev (Option.bind (iS N r l) fun x1=>Option.bind (cat hd x1.1) fun x2=>Option.bind (gA N x2) fun x3=>K x1 x2 x3) Q:=by refine aK (aNP N hr hk hl) fun x1 ⟨m1,r1⟩=>?_;obtain⟨x,q,h1,h2,h3⟩:=aLD h m1;exact aA h1 (aA h2 (hK _ _ _ r1 h3))
theorem aJu{k:Int}{r:L16Rd}(hr:RdOk k r)(hk:0≤k∧k≤900000):Ev (B7 N r) (fun x=>BG 10 x.1∧RdOk (k+210000) x.2):=by
 unfold B7;refine aNt hr (by omega) (by simp) (by kernel_rfl) fun x1 x2 x3 r1 h3=>?_;refine Ev.jn (fun z=>RdOk (k+2) ⟨z.1,z.2.1⟩) (fun j hj=>?_) fun z hz=>?_
 ·exact Ev.cond (fun _=>aK (lA N r1 (by omega)) fun x5 ⟨_,_,r5⟩=>hj _ (r5.mono (by omega))) fun _=>hj _ (r1.mono (by omega))
 exact Ev.cond (fun _=>Ev.some ⟨h3,hz.mono (by omega)⟩) fun _=>aK (aJw hz (by omega)) fun x9 ⟨h9,r9⟩=>Ev.some ⟨h9,r9.mono (by omega)⟩
end Go.Lift
