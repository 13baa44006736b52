/- What is drawn: nests, accesses, expressions, statements. -/
import Derived.Test.YtlbojjldejlgaaaGreatTCore2
set_option maxRecDepth 110000000
set_option linter.unusedVariables false
namespace Go.Lift
open Go
def BA(B:Nat)(a:Affine):Prop:=a.coefs.length≤B
def BAs(B:Nat)(l:List Affine):Prop:=l.length≤B∧ ∀a∈l,BA B a
def BN(B:Nat)(nest:List Loop):Prop:=nest.length≤B∧ ∀l∈nest,BAs B l.lo∧BAs B l.hi
def BE(B:Nat):Nat→Expr→Prop
 |0,_=>False
 |L+1,e=>e.kids.length≤B∧BA B e.index∧BAs B e.read.subs∧ ∀k∈e.kids,BE B L k
def BS(B:Nat)(s:Stmt):Prop:=BAs B s.write.subs∧BE B 5 s.value
def BPt(B:Nat)(x:Part):Prop:=BN B x.nest∧x.body.length≤B∧ ∀s∈x.body,BS B s
def BR(B:Nat)(l:List Arr):Prop:=l.length≤B∧ ∀x∈l,x.dims.length≤B
def BG(B:Nat)(p:Prog):Prop:=BR B p.arrays∧p.parts.length≤B∧ ∀x∈p.parts,BPt B x
theorem BA.mono{B C:Nat}(h:B≤C){a:Affine}(ha:BA B a):BA C a:=r8 ha h
theorem BAs.mono{B C:Nat}(h:B≤C){l:List Affine}(ha:BAs B l):BAs C l:=⟨r8 ha.1 h,fun a hm=>(ha.2 a hm).mono h⟩
theorem BN.mono{B C:Nat}(h:B≤C){l:List Loop}(ha:BN B l):BN C l:=⟨r8 ha.1 h,fun a hm=>⟨(ha.2 a hm).1.mono h,(ha.2 a hm).2.mono h⟩⟩
theorem BE.mono{B C:Nat}(h:B≤C): ∀{L M:Nat} {e:Expr},L≤M→BE B L e→BE C M e
 |0,_,_,_,he=>he.elim
 |L+1,0,_,hl,_=>by omega
 |L+1,M+1,e,hl,he=>⟨r8 he.1 h,he.2.1.mono h,he.2.2.1.mono h,fun k hk=>BE.mono h (by omega) (he.2.2.2 k hk)⟩
theorem BS.mono{B C:Nat}(h:B≤C){s:Stmt}(hs:BS B s):BS C s:=⟨hs.1.mono h,hs.2.mono h (kF _)⟩
theorem BPt.mono{B C:Nat}(h:B≤C){s:Part}(hs:BPt B s):BPt C s:=⟨hs.1.mono h,r8 hs.2.1 h,fun s hm=>(hs.2.2 s hm).mono h⟩
theorem BR.mono{B C:Nat}(h:B≤C){s:List Arr}(hs:BR B s):BR C s:=⟨r8 hs.1 h,fun s hm=>r8 (hs.2 s hm) h⟩
theorem BG.mono{B C:Nat}(h:B≤C){p:Prog}(hs:BG B p):BG C p:=⟨hs.1.mono h,r8 hs.2.1 h,fun s hm=>(hs.2.2 s hm).mono h⟩
theorem BAs.sm{l:List Affine}(h:BAs 1100000 l):B3 l:=⟨h.1,h.2⟩
theorem BE.sm: ∀{L:Nat} (j:Nat) {e:Expr},BE 1100000 L e→SmE j e
 |_,0,_,_=>trivial
 |0,_+1,_,h=>h.elim
 |L+1,j+1,e,h=>⟨h.1,h.2.1,h.2.2.1.sm,fun k hk=>BE.sm j (h.2.2.2 k hk)⟩
theorem BS.sm{s:Stmt}(h:BS 1100000 s):SmS s:=⟨h.1.sm,h.2.sm 5⟩
theorem BN.sm{l:List Loop}(h:BN 1100000 l):SmN l:=⟨h.1,fun x hx=>⟨(h.2 x hx).1.sm,(h.2 x hx).2.sm⟩⟩
theorem BPt.sm{x:Part}(h:BPt 1100000 x):aES x:=⟨h.1.sm,h.2.1,fun s hs=>(h.2.2 s hs).sm⟩
theorem BG.sm{p:Prog}(h:BG 1100000 p):SmP p:=⟨⟨h.1.1,h.1.2⟩,h.2.1,fun x hx=>(h.2.2 x hx).sm⟩
theorem tF(n:Nat)(c:Int):kQ n c=some ⟨[0,0,0,0],c⟩:=rfl
theorem A7{α β R:Type}{l:List α}{f:α→Option β}{g:α→β→α}{K:List α→Option R}{Q:R→Prop}{n:Nat}(hf: ∀x∈l,∃z,f x=some z∧g x z=x)(hl:l.length≤1100000)(hn:5500000≤n)(hK:Ev (K l) Q):
  Ev (aL (fun again ((x,i):List α×Int)=>bif decide (i<(l.length:Int)) then(Option.bind (ix l i) fun y=>Option.bind (f y) fun z=>Option.bind (app x [g y z]) fun w=>again (w,wr (i+1))) else K x) n ([],0)) Q:=by
 refine Ev.loop (fun z:List α×Int=> ∃i:Nat,z.2=i∧i≤l.length∧z.1=l.take i) (fun z=>l.length-z.2.toNat) ?_ n _ ⟨0,rfl,by omega,by simp⟩ (by dsimp only;omega);rintro again ⟨x,z⟩ ⟨i,hz,hi,hx⟩ hr;dsimp only at hz hx⊢;subst hz;refine aK (fun hlt=>?_) fun hge=>?_
 ·have hg:=dH (show i<l.length by omega);have hxl:x.length≤1100000:=by rw [hx,mH];omega
  obtain⟨y,hy,hgy⟩:=hf _ (dD hg);refine aB (aS hg) (aB hy (aB (dO (by simp;omega)) ?_));rw [aM (by omega)];refine hr _ ⟨i+1,by dsimp only;omega,by omega,?_⟩ (by dsimp only;omega);dsimp only;rw [R5,hg,hx,hgy];rfl
 have:i=l.length:=by omega
 rw [hx,this,wQ];exact hK
theorem fZ{α R:Type}{l:List α}{f:α→Option α}{K:List α→Option R}{Q:R→Prop}{n:Nat}(hf: ∀x∈l,f x=some x)(hl:l.length≤1100000)(hn:5500000≤n)(hK:Ev (K l) Q):
  Ev (aL (fun again ((x,i):List α×Int)=>bif decide (i<(l.length:Int)) then(Option.bind (ix l i) fun y=>Option.bind (f y) fun z=>Option.bind (app x [z]) fun w=>again (w,wr (i+1))) else K x) n ([],0)) Q:=
 A7 (g:=fun _ z=>z) (fun x hx=>⟨x,hf x hx,rfl⟩) hl hn hK
theorem D1: ∀(L n:Nat) (e:Expr),5500000+L≤n→BE 1100000 L e→s_l3CopyExpr (n+1) e=some e
 |0,_,_,_,h=>h.elim
 |L+1,n,e,hn,h=>by
  obtain⟨h1,h2,h3,h4⟩:=h;unfold s_l3CopyExpr;refine Ev.eq (aB (O4 n h2) (aB (wE (by omega) h3.sm) ?_));obtain⟨n,rfl⟩: ∃j,n=j+1:=⟨n-1,by omega⟩
  exact fZ (f:=s_l3CopyExpr (n+1)) (K:=fun x3=>some (⟨e.kind,e.num,e.index,e.read,x3⟩:Expr)) (fun x hx=>D1 L n x (by omega) (h4 x hx)) h1 (by omega) (Ev.some (by cases e;rfl))
theorem aCD{n:Nat}(hn:6600000≤n){s:Stmt}(h:BS 1100000 s):pA n s=some s:=by
 obtain⟨n,rfl⟩: ∃j,n=j+1:=⟨n-1,by omega⟩
 unfold pA;rw [wE (by omega) h.1.sm,D1 5 n s.value (by omega) h.2];rfl
theorem aCE{n:Nat}(hn:6600000≤n){nest:List Loop}(h:BN 1100000 nest):sS n nest=some nest:=by
 obtain⟨h1,h2⟩:=h;refine Ev.eq ?_;unfold sS;refine Ev.loop (fun z:List Loop×Int=> ∃i:Nat,z.2=i∧i≤nest.length∧z.1=nest.take i) (fun z=>nest.length-z.2.toNat) ?_ n _ ⟨0,rfl,by omega,by simp⟩ (by dsimp only;omega);rintro again ⟨x,z⟩ ⟨i,hz,hi,hx⟩ hr;dsimp only at hz hx⊢;subst hz;refine aK (fun hlt=>?_) fun hge=>Ev.some ?_
 ·have hg:=dH (show i<nest.length by omega);obtain⟨⟨l1,l2⟩,⟨k1,k2⟩⟩:=h2 _ (dD hg);have hxl:x.length≤1100000:=by rw [hx,mH];omega
  refine Ev.loop (fun z:List Affine×Int=> ∃t:Nat,z.2=t∧t≤nest[i].lo.length∧z.1=nest[i].lo.take t) (fun z=>nest[i].lo.length-z.2.toNat) ?_ n _ ⟨0,rfl,by omega,by simp⟩ (by dsimp only;omega);rintro again8 ⟨y,z⟩ ⟨t,hz,ht,hy⟩ hr8;dsimp only at hz hy⊢;subst hz;refine aB (aS hg) (aK (fun hlt2=>?_) fun hge2=>?_)
  ·have hgt:=dH (show t<nest[i].lo.length by omega);have hyl:y.length≤1100000:=by rw [hy,mH];omega
   refine aB (aS hgt) (aB (dS _ (l2 _ (dD hgt))) (aB (dO (by simp;omega)) ?_));rw [aM (by omega)];refine hr8 _ ⟨t+1,by dsimp only;omega,by omega,?_⟩ (by dsimp only;omega);dsimp only;rw [R5,hgt,hy];rfl
  have hte:t=nest[i].lo.length:=by omega
  refine A7 (l:=nest[i].hi) (f:=fun a:Affine=>app [] a.coefs) (g:=fun a x18=>(⟨x18,a.const⟩:Affine)) (K:=fun x13=>Option.bind (app x [(⟨y,x13⟩:Loop)]) fun x20=>again (x20,wr ((i:Int)+1))) (fun a ha=>⟨_,dS _ (k2 a ha),rfl⟩) k1 (by omega) ?_;refine aB (dO (by simp;omega)) ?_;rw [aM (by omega)];refine hr _ ⟨i+1,by dsimp only;omega,by omega,?_⟩ (by dsimp only;omega);dsimp only;rw [R5,hg,hx,hy,hte,wQ];rfl
 have:i=nest.length:=by omega
 rw [hx,this,wQ]
theorem D0{n:Nat}(hn:6600000≤n){p:Prog}(h:BG 1100000 p):sO n p=some p:=by
 obtain⟨⟨a1,a2⟩,h1,h2⟩:=h;refine Ev.eq ?_;unfold sO;refine A7 (n:=n) (l:=p.arrays) (f:=fun x5:Arr=>app [] x5.dims) (g:=fun x5 x6=>(⟨x5.name,x6⟩:Arr)) (K:=fun x1=>aL (fun again11 ((x8,x9):(List Part)×Int)=>
    bif decide (x9<(p.parts.length:Int)) then(
     Option.bind (ix p.parts x9) fun x12=>
     Option.bind (sS n x12.nest) fun x13=>
     aL (fun again17 ((x14,x15):(List Stmt)×Int)=>
      bif decide (x15<(x12.body.length:Int)) then(
       Option.bind (ix x12.body x15) fun x18=>
       Option.bind (pA n x18) fun x19=>
       Option.bind (app x14 [x19]) fun x20=>
       again17 (x20,wr (x15+1))
      ) else(
       Option.bind (app x8 [(⟨x13,x14⟩:Part)]) fun x21=>
       again11 (x21,wr (x9+1))
      )
     ) n ([],0)
    ) else(
     some (⟨x1,x8⟩:Prog)
    )
   ) n ([],0)) (fun a ha=>⟨_,dS _ (a2 a ha),rfl⟩) a1 (by omega) ?_
 refine Ev.loop (fun z:List Part×Int=> ∃i:Nat,z.2=i∧i≤p.parts.length∧z.1=p.parts.take i) (fun z=>p.parts.length-z.2.toNat) ?_ n _ ⟨0,rfl,by omega,by simp⟩ (by dsimp only;omega);rintro again ⟨x,z⟩ ⟨i,hz,hi,hx⟩ hr;dsimp only at hz hx⊢;subst hz;refine aK (fun hlt=>?_) fun hge=>Ev.some ?_
 ·have hg:=dH (show i<p.parts.length by omega);obtain⟨n1,b1,b2⟩:=h2 _ (dD hg);have hxl:x.length≤1100000:=by rw [hx,mH];omega
  refine aB (aS hg) (aB (aCE hn n1) ?_);refine fZ (f:=pA n) (K:=fun x14=>Option.bind (app x [(⟨p.parts[i].nest,x14⟩:Part)]) fun x21=>again (x21,wr ((i:Int)+1))) (fun s hs=>aCD hn (b2 s hs)) b1 (by omega) ?_;refine aB (dO (by simp;omega)) ?_;rw [aM (by omega)];refine hr _ ⟨i+1,by dsimp only;omega,by omega,?_⟩ (by dsimp only;omega);dsimp only;rw [R5,hg,hx];rfl
 have:i=p.parts.length:=by omega
 rw [hx,this,wQ]
theorem aAP{α:Type}{l:List α}{i:Nat}{x:α}{P:α→Prop}(h: ∀y∈l,P y)(hx:P x): ∀y∈l.set i x,P y:=fun y hy=>by
 rcases vBb hy with h1|h1
 ·exact h y h1
 rw [h1];exact hx
theorem iC{α:Type}{l:List α}{i:Int}(h:0≤i∧i<l.length)(x:α):dM l i x=some (l.set i.toNat x):=by unfold dM;rw [if_pos h]
end Go.Lift
