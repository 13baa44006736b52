/- What is drawn: nests, accesses, expressions, statements. -/
import Derived.Test.YtcihigfifglboabGreatECore2
set_option maxRecDepth 100000
set_option linter.unusedVariables false
namespace Go.Lift
open Go
def BA(B:Nat)(a:Affine):Prop:=a.coefs.length≤B
def BAs(B:Nat)(l:List Affine):Prop:=l.length≤B∧ ∀a∈l,BA B a
def BN(B:Nat)(nest:List Loop):Prop:=nest.length≤B∧ ∀l∈nest,BAs B l.lo∧BAs B l.hi
def BE(B:Nat):Nat→Expr→Prop
 |0,_=>False
 |L+1,e=>e.kids.length≤B∧BA B e.index∧BAs B e.read.subs∧ ∀k∈e.kids,BE B L k
def BS(B:Nat)(s:Stmt):Prop:=BAs B s.write.subs∧BE B 5 s.value
def BPt(B:Nat)(x:Part):Prop:=BN B x.nest∧x.body.length≤B∧ ∀s∈x.body,BS B s
def BR(B:Nat)(l:List Arr):Prop:=l.length≤B∧ ∀x∈l,x.dims.length≤B
def BG(B:Nat)(p:Prog):Prop:=BR B p.arrays∧p.parts.length≤B∧ ∀x∈p.parts,BPt B x
theorem BA.mono{B C:Nat}(h:B≤C){a:Affine}(ha:BA B a):BA C a:=V4 ha h
theorem BAs.mono{B C:Nat}(h:B≤C){l:List Affine}(ha:BAs B l):BAs C l:=⟨V4 ha.1 h,fun a hm=>(ha.2 a hm).mono h⟩
theorem BN.mono{B C:Nat}(h:B≤C){l:List Loop}(ha:BN B l):BN C l:=⟨V4 ha.1 h,fun a hm=>⟨(ha.2 a hm).1.mono h,(ha.2 a hm).2.mono h⟩⟩
theorem BE.mono{B C:Nat}(h:B≤C): ∀{L M:Nat} {e:Expr},L≤M→BE B L e→BE C M e
 |0,_,_,_,he=>he.elim
 |L+1,0,_,hl,_=>by omega
 |L+1,M+1,e,hl,he=>⟨V4 he.1 h,he.2.1.mono h,he.2.2.1.mono h,fun k hk=>BE.mono h (by omega) (he.2.2.2 k hk)⟩
theorem BS.mono{B C:Nat}(h:B≤C){s:Stmt}(hs:BS B s):BS C s:=⟨hs.1.mono h,hs.2.mono h (kH _)⟩
theorem BPt.mono{B C:Nat}(h:B≤C){s:Part}(hs:BPt B s):BPt C s:=⟨hs.1.mono h,V4 hs.2.1 h,fun s hm=>(hs.2.2 s hm).mono h⟩
theorem BR.mono{B C:Nat}(h:B≤C){s:List Arr}(hs:BR B s):BR C s:=⟨V4 hs.1 h,fun s hm=>V4 (hs.2 s hm) h⟩
theorem BG.mono{B C:Nat}(h:B≤C){p:Prog}(hs:BG B p):BG C p:=⟨hs.1.mono h,V4 hs.2.1 h,fun s hm=>(hs.2.2 s hm).mono h⟩
theorem BAs.sm{l:List Affine}(h:BAs 1000 l):U8 l:=⟨h.1,h.2⟩
theorem BE.sm: ∀{L:Nat} (j:Nat) {e:Expr},BE 1000 L e→SmE j e
 |_,0,_,_=>trivial
 |0,_+1,_,h=>h.elim
 |L+1,j+1,e,h=>⟨h.1,h.2.1,h.2.2.1.sm,fun k hk=>BE.sm j (h.2.2.2 k hk)⟩
theorem BS.sm{s:Stmt}(h:BS 1000 s):SmS s:=⟨h.1.sm,h.2.sm 5⟩
theorem BN.sm{l:List Loop}(h:BN 1000 l):SmN l:=⟨h.1,fun x hx=>⟨(h.2 x hx).1.sm,(h.2 x hx).2.sm⟩⟩
theorem BPt.sm{x:Part}(h:BPt 1000 x):aEi x:=⟨h.1.sm,h.2.1,fun s hs=>(h.2.2 s hs).sm⟩
theorem BG.sm{p:Prog}(h:BG 1000 p):SmP p:=⟨⟨h.1.1,h.1.2⟩,h.2.1,fun x hx=>(h.2.2 x hx).sm⟩
theorem lA(n:Nat){k:Int}{r:L16Rd}{m:Int}(hr:RdOk k r)(hk:k≤1000000000):Ev (bD n r m) (fun x=>0≤x.1∧(1≤m→x.1<m)∧RdOk (k+1) x.2):=aIs hr hk
theorem jQ(n:Nat){k:Int}{r:L16Rd}{l:List Int}(hr:RdOk k r)(hk:k≤1000000000)(hl:l≠[]):Ev (bA n r l) (fun x=>x.1∈l∧RdOk (k+1) x.2):=aPy hr hk hl
theorem aNP(n:Nat){k:Int}{r:L16Rd}{l:List (List UInt8)}(hr:RdOk k r)(hk:k≤1000000000)(hl:l≠[]):Ev (iS n r l) (fun x=>x.1∈l∧RdOk (k+1) x.2):=by
 unfold iS;have hp:1≤l.length:=by cases l;exact absurd rfl hl;simp
 refine aK (lA n hr hk) fun x ⟨h0,h1,h2⟩=>?_;obtain⟨y,hy,hy2⟩:=jR h0 (h1 (by omega));exact aA hy (Ev.some ⟨cR hy2,h2⟩)
def A4(a:Affine):Prop:=a.coefs.length=4
theorem jB(n:Nat)(c:Int):d4 n c=some ⟨[0,0,0,0],c⟩:=rfl
theorem Y2(n:Nat){v:Int}(h:0≤v∧v≤3):Ev (qA n v) A4:=by
 unfold qA;refine aA (x:=⟨[0,0,0,0],0⟩) rfl ?_;obtain⟨y,hy,_⟩:=jR (l:=[(0:Int),0,0,0]) (i:=v) h.1 (by simp;omega);refine aA hy ?_;have hs:cQ [(0:Int),0,0,0] v 1=some ([(0:Int),0,0,0].set v.toNat 1):=by unfold cQ;rw [if_pos ⟨h.1,by simp;omega⟩]
 exact aA hs (Ev.some (by unfold A4;rw [L5];rfl))
theorem aA8{n:Nat}(hn:5000≤n){a b:Affine}(ha:A4 a)(hb:A4 b)(x y:Int):Ev (kT n a x b y) A4:=by unfold A4 at ha hb;unfold kT;refine Ev.loop (fun z:List Int×Int=> ∃i:Nat,z.2=i∧i≤4∧z.1.length=i) (fun z=>4-z.2.toNat) ?_ n _ ⟨0,rfl,by omega,rfl⟩ (by dsimp only;omega);rintro again ⟨z,w⟩ ⟨i,hw,hi,hz⟩ hr;dsimp only at hw hz⊢;subst hw;refine aG (fun hlt=>?_) fun hge=>Ev.some (by unfold A4;dsimp only;omega);refine aA (aI (cP (show i<a.coefs.length by omega))) (aA (aI (cP (show i<b.coefs.length by omega))) (aA (bJ (by simp;omega)) ?_));rw [aN (n:=(i:Int)+1) (by omega)];exact hr _ ⟨i+1,by dsimp only;omega,by omega,by dsimp only;simp;omega⟩ (by dsimp only;omega)
theorem A4.ba{a:Affine}(h:A4 a):BA 10 a:=by unfold A4 at h;unfold BA;omega
theorem aEf{a:Affine}(h:BA 10 a):BAs 10 [a]:=⟨by simp,fun x hx=>by simp at hx;subst hx;exact h⟩
theorem aRe{a b:Affine}(h:BA 10 a)(k:BA 10 b):BAs 10 [a,b]:=⟨by simp,fun x hx=>by simp at hx;rcases hx with rfl|rfl;exact h;exact k⟩
theorem aNX{n:Nat}(hn:5000≤n){k:Int}{r:L16Rd}(hr:RdOk k r)(hk:0≤k∧k≤100000000){d:Int}(hd:0≤d∧d≤3):Ev (D2 n r d) (fun x=>(BAs 10 x.1.lo∧BAs 10 x.1.hi)∧RdOk (k+10) x.2):=by
 unfold D2;refine aK (jQ n hr (by omega) (by simp)) fun x1 ⟨_,r1⟩=>aA (jB _ _) (aK (jQ n r1 (by omega) (by simp)) fun x3 ⟨_,r3⟩=>aA (jB _ _) ?_);refine Ev.jn (fun z:List UInt8×Int×List Int×Int×List Int×Int=>RdOk (k+5) ⟨z.1,z.2.1⟩∧z.2.2.1.length=4∧z.2.2.2.2.1.length=4) (fun j hj=>?_) fun z hz=>?_
 ·refine Ev.jn (fun z:List UInt8×Int×Bool=>RdOk (k+3) ⟨z.1,z.2.1⟩∧(z.2.2=true→0<d)) (fun j6 hj6=>aG (fun h=>?_) fun h=>hj6 _ ⟨r3.mono (by omega),fun h=>by cases h⟩) fun z hz=>?_
  ·exact aK (lA n r3 (by omega)) fun x7 ⟨_,_,r7⟩=>hj6 _ ⟨r7.mono (by omega),fun _=>h⟩
  obtain⟨z1,z2,z3⟩:=z;obtain⟨hz1,hz2⟩:=hz;dsimp only at hz1 hz2⊢;cases z3 with
  |false=>exact hj _ ⟨hz1.mono (by omega),rfl,rfl⟩
  |true=>
   have hd0:=hz2 rfl;refine aK (lA n hz1 (by omega)) fun x11 ⟨p0,p1,r11⟩=>aK (lA n r11 (by omega)) fun x12 ⟨_,_,r12⟩=>?_;have hv:0≤x11.1∧x11.1≤3:=⟨p0,by have:=p1 (by omega);omega⟩
   refine aG (fun _=>aK (Y2 n hv) fun x13 h13=>hj _ ⟨r12.mono (by omega),h13,rfl⟩) fun _=>aK (Y2 n hv) fun x14 h14=>aA (jB _ _) (aK (aA8 hn h14 (show A4 ⟨[0,0,0,0],1⟩ from rfl) 1 1) fun x16 h16=>hj _ ⟨r12.mono (by omega),rfl,h16⟩)
 obtain⟨z1,z2,z3,z4,z5,z6⟩:=z;obtain⟨hz1,hz2,hz3⟩:=hz;dsimp only at hz1 hz2 hz3⊢;have b1:BA 10 ⟨z3,z4⟩:=by unfold BA;dsimp only;omega
 have b2:BA 10 ⟨z5,z6⟩:=by unfold BA;dsimp only;omega
 have bc: ∀c:Int,BA 10 ⟨[0,0,0,0],c⟩:=fun c=>by unfold BA;simp
 refine Ev.jn (fun z:List UInt8×Int×List Affine×List Affine=>RdOk (k+10) ⟨z.1,z.2.1⟩∧BAs 10 z.2.2.1∧BAs 10 z.2.2.2) (fun j hj=>?_) fun z hz=>Ev.some ⟨⟨hz.2.1,hz.2.2⟩,hz.1⟩;refine aK (lA n hz1 (by omega)) fun x24 ⟨_,_,r24⟩=>aG (fun _=>?_) fun _=>aG (fun _=>?_) fun _=>hj _ ⟨r24.mono (by omega),aEf b1,aEf b2⟩
 ·exact aK (jQ n r24 (by omega) (by simp)) fun x25 ⟨_,r25⟩=>aA (jB _ _) (aA (bJ (by simp)) (hj _ ⟨r25.mono (by omega),aEf b1,aRe b2 (bc _)⟩))
 exact aK (jQ n r24 (by omega) (by simp)) fun x25 ⟨_,r25⟩=>aA (jB _ _) (aA (bJ (by simp)) (hj _ ⟨r25.mono (by omega),aRe b1 (bc _),aEf b2⟩))
theorem aNS{n:Nat}(hn:5000≤n){k:Int}{r:L16Rd}(hr:RdOk k r)(hk:0≤k∧k≤90000000):Ev (D1 n r) (fun x=>(x.1.length≤3∧BN 10 x.1)∧RdOk (k+40) x.2):=by
 unfold D1;refine aK (jQ n hr (by omega) (by simp)) fun x1 ⟨m1,r1⟩=>?_;have hm:1≤x1.1∧x1.1≤3:=by simp at m1;omega
 refine Ev.loop (fun z:List UInt8×Int×List Loop×Int=>0≤z.2.2.2∧(z.2.2.1.length:Int)+z.2.2.2=x1.1∧RdOk (k+1+10*z.2.2.1.length) ⟨z.1,z.2.1⟩∧ ∀l∈z.2.2.1,BAs 10 l.lo∧BAs 10 l.hi) (fun z=>z.2.2.2.toNat) ?_ n _ ⟨by dsimp only;omega,by simp,by simpa using r1,fun l h=>by simp at h⟩ (by dsimp only;omega);rintro again ⟨b,q,ls,c⟩ ⟨i1,i2,i3,i4⟩ hrr;dsimp only at i1 i2 i3 i4⊢;refine aG (fun hlt=>?_) fun hge=>Ev.some ⟨⟨by dsimp only;omega,by dsimp only;omega,i4⟩,i3.mono (by omega)⟩;refine aK (aNX hn i3 (by omega) (d:=(ls.length:Int)) (by omega)) fun x8 ⟨h8,r8⟩=>aA (bJ (by simp;omega)) ?_;rw [aN (by omega)];refine hrr _ ⟨by dsimp only;omega,by dsimp only;simp;omega,r8.mono (by simp;omega),fun l hl=>?_⟩ (by dsimp only;omega);rcases wV.1 hl with h|h
 ·exact i4 l h
 simp at h;subst h;exact h8
theorem aIO{n:Nat}(hn:5000≤n){k:Int}{r:L16Rd}(hr:RdOk k r)(hk:0≤k∧k≤90000000){d:Int}(hd:0≤d∧d≤3):Ev (sD n r d) (fun x=>BAs 10 x.1.subs∧RdOk (k+20) x.2):=by
 unfold sD;refine aK (aNP n hr (by omega) (by simp)) fun x1 ⟨m1,r1⟩=>?_;refine Ev.jn (fun z:Int=>1≤z∧z≤2) (fun j hj=>aG (fun _=>hj _ (by omega)) fun _=>hj _ (by omega)) fun w hw=>?_;refine Ev.loop (fun z:List UInt8×Int×List Affine×Int=>0≤z.2.2.2∧z.2.2.2≤w∧(z.2.2.1.length:Int)=z.2.2.2∧RdOk (k+1+8*z.2.2.2) ⟨z.1,z.2.1⟩∧ ∀a∈z.2.2.1,BA 10 a) (fun z=>(w-z.2.2.2).toNat) ?_ n _ ⟨by dsimp only;omega,by dsimp only;omega,by simp,by simpa using r1,fun l h=>by simp at h⟩ (by dsimp only;omega);rintro again ⟨b,q,ls,c⟩ ⟨i1,i2,i3,i4,i5⟩ hrr;dsimp only at i1 i2 i3 i4 i5⊢;refine aG (fun hlt=>?_) fun hge=>Ev.some ⟨⟨by dsimp only;omega,i5⟩,i4.mono (by omega)⟩;refine aK (jQ n i4 (by omega) (by simp)) fun x10 ⟨_,r10⟩=>aA (jB _ _) ?_;refine Ev.jn (fun z:List UInt8×Int×List Int×Int=>RdOk (k+1+8*c+8) ⟨z.1,z.2.1⟩∧z.2.2.1.length=4) (fun j hj=>?_) fun z hz=>?_
 ·refine Ev.jn (fun z:List UInt8×Int×Bool=>RdOk (k+1+8*c+2) ⟨z.1,z.2.1⟩∧(z.2.2=true→0<d)) (fun j6 hj6=>aG (fun h=>?_) fun h=>hj6 _ ⟨r10.mono (by omega),fun h=>by cases h⟩) fun z hz=>?_
  ·exact aK (lA n r10 (by omega)) fun x7 ⟨_,_,r7⟩=>hj6 _ ⟨r7.mono (by omega),fun _=>h⟩
  obtain⟨z1,z2,z3⟩:=z;obtain⟨hz1,hz2⟩:=hz;dsimp only at hz1 hz2⊢;cases z3 with
  |false=>exact hj _ ⟨hz1.mono (by omega),rfl⟩
  |true=>
   have hd0:=hz2 rfl;refine aK (lA n hz1 (by omega)) fun x18 ⟨p0,p1,r18⟩=>aK (Y2 n ⟨p0,by have:=p1 (by omega);omega⟩) fun x19 h19=>?_;refine aK (jQ n r18 (by omega) (by simp)) fun x20 ⟨_,r20⟩=>aK (jQ n r20 (by omega) (by simp)) fun x21 ⟨_,r21⟩=>aA (jB _ _) ?_;exact aK (aA8 hn h19 (show A4 ⟨[0,0,0,0],x21.1⟩ from rfl) _ _) fun x23 h23=>hj _ ⟨r21.mono (by omega),h23⟩
 obtain⟨z1,z2,z3,z4⟩:=z;obtain⟨hz1,hz2⟩:=hz;dsimp only at hz1 hz2⊢;refine aA (bJ (by simp;omega)) ?_;rw [aN (by omega)];refine hrr _ ⟨by dsimp only;omega,by dsimp only;omega,by dsimp only;simp;omega,hz1.mono (by dsimp only;omega),fun a ha=>?_⟩ (by dsimp only;omega);rcases wV.1 ha with h|h
 ·exact i5 a h
 simp at h;subst h;unfold BA;dsimp only;omega
theorem aOb{n:Nat}(hn:5000≤n){k:Int}{r:L16Rd}(hr:RdOk k r)(hk:0≤k∧k≤90000000){d:Int}(hd:0≤d∧d≤3):Ev (vE n r d) (fun x=>BA 10 x.1∧RdOk (k+10) x.2):=by
 unfold vE;refine aK (jQ n hr (by omega) (by simp)) fun x1 ⟨m1,r1⟩=>aA (jB _ _) ?_;refine Ev.loop (fun z:List UInt8×Int×List Int×Int=>0≤z.2.2.2∧z.2.2.2≤d∧z.2.2.1.length=4∧RdOk (k+1+z.2.2.2) ⟨z.1,z.2.1⟩) (fun z=>(d-z.2.2.2).toNat) ?_ n _ ⟨by dsimp only;omega,by dsimp only;omega,by simp,by simpa using r1⟩ (by dsimp only;omega);rintro again ⟨b,q,ls,c⟩ ⟨i1,i2,i3,i4⟩ hrr;dsimp only at i1 i2 i3 i4⊢;refine aG (fun hlt=>?_) fun hge=>Ev.some ⟨by unfold BA;dsimp only;omega,i4.mono (by omega)⟩;refine aK (jQ n i4 (by omega) (by simp)) fun x9 ⟨_,r9⟩=>?_;obtain⟨y,hy,_⟩:=jR (l:=ls) (i:=c) i1 (by omega);have hs:cQ ls c x9.1=some (ls.set c.toNat x9.1):=by unfold cQ;rw [if_pos ⟨i1,by omega⟩]
 refine aA hy (aA hs ?_);rw [aN (by omega)];exact hrr _ ⟨by dsimp only;omega,by dsimp only;omega,by dsimp only;rw [L5];exact i3,r9.mono (by dsimp only;omega)⟩ (by dsimp only;omega)
def qO:Nat→Int
 |0=>30
 |L+1=>30+2*qO L
theorem aCX: ∀L,30≤qO L
 |0=>Y3 _
 |L+1=>by have:=aCX L;simp only [qO];omega
theorem aFx{L:Nat}(h:L≤2):qO L≤210:=by
 have h01:L=0∨L=1∨L=2:=by omega
 rcases h01 with rfl|rfl|rfl<;>decide
theorem ba0:BA 10 ⟨[],0⟩:=by unfold BA;simp
theorem aJW:BAs 10 []:=⟨by simp,fun x hx=>by simp at hx⟩
theorem aKp{d:Int}(hd:0≤d∧d≤3): ∀(L n:Nat) (k:Int) (r:L16Rd),5000+L≤n→L≤2→RdOk k r→0≤k→k≤80000000+10000*(2-(L:Int))→Ev (s_l3Value (n+1) r d ((L:Int)+1)) (fun x=>BE 10 (L+1) x.1∧RdOk (k+qO L) x.2):=by
 have leaf: ∀(L n:Nat) (k:Int) (r:L16Rd),5000≤n→RdOk k r→0≤k→k≤80100000→
   Ev (Option.bind (bD n r 4) fun x6=>bif decide (x6.1=0) then(Option.bind (bA n x6.2 [1,2,0,99,3]) fun x7=>some ((⟨1,x7.1,(⟨[],0⟩:Affine),(⟨[],[]⟩:Access),[]⟩:Expr),x7.2)) else(bif decide (x6.1=1) then(Option.bind (vE n x6.2 d) fun x8=>some ((⟨2,0,x8.1,(⟨[],[]⟩:Access),[]⟩:Expr),x8.2)) else(Option.bind (sD n x6.2 d) fun x9=>some ((⟨3,0,(⟨[],0⟩:Affine),x9.1,[]⟩:Expr),x9.2)))) (fun x=>BE 10 (L+1) x.1∧RdOk (k+25) x.2):=by
  intro L n k r hn hr h0 h1;refine aK (lA n hr (by omega)) fun x6 ⟨_,_,r6⟩=>aG (fun _=>?_) fun _=>aG (fun _=>?_) fun _=>?_
  ·exact aK (jQ n r6 (by omega) (by simp)) fun x7 ⟨_,r7⟩=>Ev.some ⟨⟨by simp,ba0,aJW,fun k h=>by simp at h⟩,r7.mono (by omega)⟩
  ·exact aK (aOb hn r6 (by omega) hd) fun x7 ⟨h7,r7⟩=>Ev.some ⟨⟨by simp,h7,aJW,fun k h=>by simp at h⟩,r7.mono (by omega)⟩
  exact aK (aIO hn r6 (by omega) hd) fun x7 ⟨h7,r7⟩=>Ev.some ⟨⟨by simp,ba0,h7,fun k h=>by simp at h⟩,r7.mono (by omega)⟩
 intro L;induction L with
 |zero=>
  intro n k r hn hL hr h0 h1;unfold s_l3Value;refine Ev.jn (fun z:List UInt8×Int×Bool=>RdOk k ⟨z.1,z.2.1⟩∧z.2.2=true) (fun j hj=>aG (fun _=>hj _ ⟨hr,rfl⟩) fun h=>absurd (show((0:Nat):Int)+1<2 by omega) h) fun z hz=>?_;obtain⟨z1,z2,z3⟩:=z;obtain⟨hz1,hz2⟩:=hz;dsimp only at hz1 hz2⊢;subst hz2;exact(leaf 0 n k _ (by omega) hz1 h0 (by omega)).mono (fun x hx=>⟨hx.1,hx.2.mono (by simp only [qO];omega)⟩)
 |succ L ih=>
  intro n k r hn hL hr h0 h1;have hcp:=aCX L;have hcu:qO L≤210:=aFx (by omega);unfold s_l3Value;refine Ev.jn (fun z:List UInt8×Int×Bool=>RdOk (k+1) ⟨z.1,z.2.1⟩) (fun j hj=>aG (fun h=>hj _ (hr.mono (by omega))) fun h=>aK (lA n hr (by omega)) fun x2 ⟨_,_,r2⟩=>hj _ r2) fun z hz=>?_;obtain⟨z1,z2,z3⟩:=z;dsimp only at hz⊢;cases z3 with
  |true=>exact(leaf (L+1) n (k+1) _ (by omega) hz (by omega) (by omega)).mono (fun x hx=>⟨hx.1,hx.2.mono (by simp only [qO];omega)⟩)
  |false=>
   refine b7 (aK (jQ n hz (by omega) (by simp)) fun x10 ⟨_,r10⟩=>?_);obtain⟨n,rfl⟩: ∃j,n=j+1:=⟨n-1,by omega⟩
   have ew:wr (((L+1:Nat):Int)+1-1)=(L:Int)+1:=by rw [aN (by omega)];omega
   rw [ew];refine Ev.loop (fun z:List UInt8×Int×List Expr×Int=>0≤z.2.2.2∧z.2.2.2≤2∧(z.2.2.1.length:Int)=z.2.2.2∧RdOk (k+2+qO L*z.2.2.2) ⟨z.1,z.2.1⟩∧ ∀e∈z.2.2.1,BE 10 (L+1) e) (fun z=>(2-z.2.2.2).toNat) ?_ (n+1) _ ⟨by dsimp only;omega,by dsimp only;omega,by simp,r10.mono (by simp;omega),fun l h=>by simp at h⟩ (by dsimp only;omega);rintro again ⟨b,q,ls,c⟩ ⟨i1,i2,i3,i4,i5⟩ hrr;dsimp only at i1 i2 i3 i4 i5⊢;have hcc:0≤qO L*c∧qO L*c≤2*qO L:=by
    have h01:c=0∨c=1∨c=2:=by omega
    rcases h01 with rfl|rfl|rfl<;>omega
   refine aG (fun hlt=>?_) fun hge=>Ev.some ⟨⟨by dsimp only;omega,ba0,aJW,i5⟩,i4.mono (by simp only [qO];omega)⟩;refine aK (ih n _ _ (by omega) (by omega) i4 (by omega) (by omega)) fun x17 ⟨h17,r17⟩=>aA (bJ (by simp;omega)) ?_;rw [aN (by omega)];refine hrr _ ⟨by dsimp only;omega,by dsimp only;omega,by dsimp only;simp;omega,r17.mono (by dsimp only;rw [vBW];omega),fun e he=>?_⟩ (by dsimp only;omega);rcases wV.1 he with h|h
   ·exact i5 e h
   simp at h;subst h;exact h17
theorem aNw{n:Nat}(hn:6000≤n){k:Int}{r:L16Rd}(hr:RdOk k r)(hk:0≤k∧k≤70000000){d:Int}(hd:0≤d∧d≤3):Ev (C7 n r d) (fun x=>BS 10 x.1∧RdOk (k+300) x.2):=by
 unfold C7;refine aK (aIO (by omega) hr (by omega) hd) fun x1 ⟨h1,r1⟩=>aK (jQ n r1 (by omega) (by simp)) fun x2 ⟨m2,r2⟩=>?_;obtain⟨L,hL,hL2⟩: ∃L:Nat,x2.1=(L:Int)+1∧L≤2:=by
  simp at m2;rcases m2 with h|h|h|h
  ·exact⟨1,by omega,by omega⟩
  ·exact⟨2,by omega,by omega⟩
  ·exact⟨0,by omega,by omega⟩
  exact⟨1,by omega,by omega⟩
 obtain⟨n,rfl⟩: ∃j,n=j+1:=⟨n-1,by omega⟩
 have hc:qO L≤210:=aFx hL2;rw [hL];refine aK (aKp hd L n _ _ (by omega) hL2 r2 (by omega) (by omega)) fun x3 ⟨h3,r3⟩=>?_;have hs:BS 10 ⟨x1.1,x3.1⟩:=⟨h1,h3.mono (kH _) (by omega)⟩
 refine aA (vG (by omega) (hs.mono (by omega)).sm d) (Ev.cond (fun _=>Ev.some ⟨hs,r3.mono (by omega)⟩) fun _=>aA (x:=⟨[0,0,0,0],0⟩) rfl (Ev.some ⟨⟨aEf (by unfold BA;simp),⟨by simp,ba0,aJW,fun k h=>by simp at h⟩⟩,r3.mono (by omega)⟩))
theorem aK9:qB N [65,91,105,93,61,40,65,91,105,93,43,123,105,125,41]=some (⟨⟨[65],[⟨[1,0,0,0],0⟩]⟩,⟨4,0,⟨[],0⟩,⟨[],[]⟩,[⟨3,0,⟨[],0⟩,⟨[65],[⟨[1,0,0,0],0⟩]⟩,[]⟩,⟨2,0,⟨[1,0,0,0],0⟩,⟨[],[]⟩,[]⟩]⟩⟩,true):=by kernel_rfl
theorem aPV:L9 N [4]=some ([⟨[⟨[0,0,0,0],0⟩],[⟨[0,0,0,0],4⟩]⟩],true):=by kernel_rfl
def some3:List Arr:=[⟨[65],[6]⟩,⟨[66],[4,5]⟩,⟨[67],[3]⟩]
theorem B1:some3.length≤4∧gL some3:=by refine⟨by decide,fun x hx=>?_⟩;simp [some3] at hx;rcases hx with rfl|rfl|rfl<;>decide
theorem aIl:BR 10 some3:=by refine⟨by decide,fun x hx=>?_⟩;simp [some3] at hx;rcases hx with rfl|rfl|rfl<;>decide
theorem aPM:BPt 10 ⟨[⟨[⟨[0,0,0,0],0⟩],[⟨[0,0,0,0],4⟩]⟩],[⟨⟨[65],[⟨[1,0,0,0],0⟩]⟩,⟨4,0,⟨[],0⟩,⟨[],[]⟩,[⟨3,0,⟨[],0⟩,⟨[65],[⟨[1,0,0,0],0⟩]⟩,[]⟩,⟨2,0,⟨[1,0,0,0],0⟩,⟨[],[]⟩,[]⟩]⟩⟩]⟩:=by
 have b4: ∀(a b c d e:Int),BA 10 ⟨[a,b,c,d],e⟩:=fun a b c d e=>by unfold BA;simp
 refine⟨⟨by simp,fun l hl=>?_⟩,by simp,fun s hs=>?_⟩
 ·simp at hl;subst hl;exact⟨aEf (b4 _ _ _ _ _),aEf (b4 _ _ _ _ _)⟩
 simp at hs;subst hs;refine⟨aEf (b4 _ _ _ _ _),by simp,ba0,aJW,fun k hk=>?_⟩;simp at hk;rcases hk with rfl|rfl
 ·exact⟨by simp,ba0,aEf (b4 _ _ _ _ _),fun k h=>by simp at h⟩
 exact⟨by simp,b4 _ _ _ _ _,aJW,fun k h=>by simp at h⟩
theorem aOn{k:Int}{r:L16Rd}(hr:RdOk k r)(hk:0≤k∧k≤10000000):Ev (C6 N r) (fun x=>BPt 10 x.1∧RdOk (k+40000) x.2):=by
 have hN:N=100000:=rfl;unfold C6;refine Ev.loop (fun z:List UInt8×Int×Int=>0≤z.2.2∧z.2.2≤4∧RdOk (k+10000*z.2.2) ⟨z.1,z.2.1⟩) (fun z=>(4-z.2.2).toNat) ?_ N _ ⟨by dsimp only;omega,by dsimp only;omega,by simpa using hr⟩ (by dsimp only;omega);rintro again ⟨b,q,c⟩ ⟨i1,i2,i3⟩ hrr;dsimp only at i1 i2 i3⊢;refine aG (fun hlt=>?_) fun hge=>aA aK9 (aA aPV (Ev.some ⟨aPM,i3.mono (by omega)⟩));refine aK (aNS (by omega) i3 (by omega)) fun x5 ⟨⟨n3,n5⟩,r5⟩=>aK (jQ N r5 (by omega) (by simp)) fun x6 ⟨m6,r6⟩=>?_;have hm:1≤x6.1∧x6.1≤3:=by simp at m6;omega
 refine Ev.loop (fun z:List UInt8×Int×List Loop×List Stmt×Int=>z.2.2.1=x5.1∧0≤z.2.2.2.2∧z.2.2.2.2≤x6.1∧(z.2.2.2.1.length:Int)+z.2.2.2.2≤x6.1∧RdOk (k+10000*c+41+1500*(x6.1-z.2.2.2.2)) ⟨z.1,z.2.1⟩∧ ∀s∈z.2.2.2.1,BS 10 s) (fun z=>z.2.2.2.2.toNat) ?_ N _ ⟨rfl,by dsimp only;omega,by dsimp only;omega,by simp,r6.mono (by dsimp only;omega),fun s h=>by simp at h⟩ (by dsimp only;omega);rintro again13 ⟨b1,q1,nst,bd,w⟩ ⟨j0,j1,j2,j3,j4,j5⟩ hr13;dsimp only at j0 j1 j2 j3 j4 j5⊢;subst j0;have hbody: ∀(l:List Stmt),l.length≤10→(∀s∈l,BS 10 s)→BPt 10 ⟨x5.1,l⟩:=fun l h1 h2=>⟨n5,h1,h2⟩
 refine aG (fun hlt2=>?_) fun hge2=>?_
 ·refine Ev.jn (fun z:List UInt8×Int×List Stmt=>RdOk (k+10000*c+41+1500*(x6.1-w)+1500) ⟨z.1,z.2.1⟩∧z.2.2.length≤bd.length+1∧ ∀s∈z.2.2,BS 10 s) (fun j14 hj=>?_) fun z hz=>?_
  ·refine Ev.loop (fun z:List UInt8×Int×Int=>0≤z.2.2∧z.2.2≤5∧RdOk (k+10000*c+41+1500*(x6.1-w)+300*z.2.2) ⟨z.1,z.2.1⟩) (fun z=>(5-z.2.2).toNat) ?_ N _ ⟨by dsimp only;omega,by dsimp only;omega,by simpa using j4⟩ (by dsimp only;omega);rintro again18 ⟨b2,q2,v⟩ ⟨g1,g2,g3⟩ hr18;dsimp only at g1 g2 g3⊢;refine aG (fun hlt3=>?_) fun hge3=>hj _ ⟨g3.mono (by omega),by dsimp only;omega,j5⟩;refine aK (aNw (by omega) g3 (by omega) (d:=(x5.1.length:Int)) (by omega)) fun x19 ⟨h19,r19⟩=>aA (x:=some3) rfl ?_;have hsm:aEi ⟨x5.1,[x19.1]⟩:=((hbody [x19.1] (by simp) fun s hs=>by simp at hs;subst hs;exact h19).mono (by omega)).sm;refine aA (vA (by omega) B1.1 B1.2 hsm) (Ev.cond (fun _=>aA (bJ (by simp;omega)) (hj _ ⟨r19.mono (by omega),by simp,fun s hs=>?_⟩)) fun _=>?_)
   ·rcases wV.1 hs with h|h
    ·exact j5 s h
    simp at h;subst h;exact h19
   rw [aN (by omega)];exact hr18 _ ⟨by dsimp only;omega,by dsimp only;omega,r19.mono (by dsimp only;omega)⟩ (by dsimp only;omega)
  obtain⟨z1,z2,z3⟩:=z;obtain⟨hz1,hz2,hz3⟩:=hz;dsimp only at hz1 hz2 hz3⊢;rw [aN (by omega)];exact hr13 _ ⟨rfl,by dsimp only;omega,by dsimp only;omega,by dsimp only;omega,hz1.mono (by dsimp only;omega),hz3⟩ (by dsimp only;omega)
 have hb:BPt 10 ⟨x5.1,bd⟩:=hbody bd (by omega) j5;refine aA (x:=some3) rfl (aA (vA (by omega) B1.1 B1.2 (hb.mono (by omega)).sm) ?_);refine Ev.jn (fun z=>True) (fun j hj=>Ev.cond (fun _=>hj _ trivial) fun _=>hj _ trivial) fun z _=>?_;cases z with
 |true=>exact Ev.some ⟨hb,j4.mono (by omega)⟩
 |false=>
  refine b7 ?_;rw [aN (by omega)];exact hrr _ ⟨by dsimp only;omega,by dsimp only;omega,j4.mono (by dsimp only;omega)⟩ (by dsimp only;omega)
theorem aJw{k:Int}{r:L16Rd}(hr:RdOk k r)(hk:0≤k∧k≤1000000):Ev (C4 N r) (fun x=>BG 10 x.1∧RdOk (k+200000) x.2):=by
 have hN:N=100000:=rfl;unfold C4;refine aA (x:=some3) rfl (aK (jQ N hr (by omega) (by simp)) fun x2 ⟨m2,r2⟩=>?_);have hm:1≤x2.1∧x2.1≤3:=by simp at m2;omega
 refine Ev.loop (fun z:List UInt8×Int×List Part×Int=>0≤z.2.2.2∧(z.2.2.1.length:Int)+z.2.2.2=x2.1∧RdOk (k+1+40000*z.2.2.1.length) ⟨z.1,z.2.1⟩∧ ∀x∈z.2.2.1,BPt 10 x) (fun z=>z.2.2.2.toNat) ?_ N _ ⟨by dsimp only;omega,by simp,by simpa using r2,fun x h=>by simp at h⟩ (by dsimp only;omega);rintro again ⟨b,q,ps,c⟩ ⟨i1,i2,i3,i4⟩ hrr;dsimp only at i1 i2 i3 i4⊢;refine aG (fun hlt=>?_) fun hge=>?_
 ·refine aK (aOn i3 (by omega)) fun x9 ⟨h9,r9⟩=>aA (bJ (by simp;omega)) ?_;rw [aN (by omega)];refine hrr _ ⟨by dsimp only;omega,by dsimp only;simp;omega,r9.mono (by simp;omega),fun x hx=>?_⟩ (by dsimp only;omega);rcases wV.1 hx with h|h
  ·exact i4 x h
  simp at h;subst h;exact h9
 have hg:BG 10 ⟨some3,ps⟩:=⟨aIl,by dsimp only;omega,i4⟩
 refine aA (kX (by omega) (hg.mono (by omega)).sm) (Ev.cond (fun _=>Ev.some ⟨hg,i3.mono (by omega)⟩) fun _=>aA (x:=some3) rfl (aA (Z1 (by omega) (by omega) (by omega)) (Ev.some ⟨⟨aIl,?_,fun x hx=>i4 x ?_⟩,i3.mono (by omega)⟩)))
 ·simp;omega
 exact vAF (vAH hx)
theorem O8{α β R:Type}{l:List α}{f:α→Option β}{g:α→β→α}{K:List α→Option R}{Q:R→Prop}{n:Nat}(hf: ∀x∈l,∃z,f x=some z∧g x z=x)(hl:l.length≤1000)(hn:5000≤n)(hK:Ev (K l) Q):
  Ev (aJ (fun again ((x,i):List α×Int)=>bif decide (i<(l.length:Int)) then(Option.bind (ix l i) fun y=>Option.bind (f y) fun z=>Option.bind (app x [g y z]) fun w=>again (w,wr (i+1))) else K x) n ([],0)) Q:=by
 refine Ev.loop (fun z:List α×Int=> ∃i:Nat,z.2=i∧i≤l.length∧z.1=l.take i) (fun z=>l.length-z.2.toNat) ?_ n _ ⟨0,rfl,by omega,by simp⟩ (by dsimp only;omega);rintro again ⟨x,z⟩ ⟨i,hz,hi,hx⟩ hr;dsimp only at hz hx⊢;subst hz;refine aG (fun hlt=>?_) fun hge=>?_
 ·have hg:=cP (show i<l.length by omega);have hxl:x.length≤1000:=by rw [hx,rQ];omega
  obtain⟨y,hy,hgy⟩:=hf _ (cR hg);refine aA (aI hg) (aA hy (aA (bJ (by simp;omega)) ?_));rw [aN (by omega)];refine hr _ ⟨i+1,by dsimp only;omega,by omega,?_⟩ (by dsimp only;omega);dsimp only;rw [xT,hg,hx,hgy];rfl
 have:i=l.length:=by omega
 rw [hx,this,pY];exact hK
theorem m8{α R:Type}{l:List α}{f:α→Option α}{K:List α→Option R}{Q:R→Prop}{n:Nat}(hf: ∀x∈l,f x=some x)(hl:l.length≤1000)(hn:5000≤n)(hK:Ev (K l) Q):
  Ev (aJ (fun again ((x,i):List α×Int)=>bif decide (i<(l.length:Int)) then(Option.bind (ix l i) fun y=>Option.bind (f y) fun z=>Option.bind (app x [z]) fun w=>again (w,wr (i+1))) else K x) n ([],0)) Q:=
 O8 (g:=fun _ z=>z) (fun x hx=>⟨x,hf x hx,rfl⟩) hl hn hK
theorem R6: ∀(L n:Nat) (e:Expr),5000+L≤n→BE 1000 L e→s_l3CopyExpr (n+1) e=some e
 |0,_,_,_,h=>h.elim
 |L+1,n,e,hn,h=>by
  obtain⟨h1,h2,h3,h4⟩:=h;unfold s_l3CopyExpr;refine Ev.eq (aA (zJ n h2) (aA (zK (by omega) h3.sm) ?_));obtain⟨n,rfl⟩: ∃j,n=j+1:=⟨n-1,by omega⟩
  exact m8 (f:=s_l3CopyExpr (n+1)) (K:=fun x3=>some (⟨e.kind,e.num,e.index,e.read,x3⟩:Expr)) (fun x hx=>R6 L n x (by omega) (h4 x hx)) h1 (by omega) (Ev.some (by cases e;rfl))
theorem R4{n:Nat}(hn:6000≤n){s:Stmt}(h:BS 1000 s):o9 n s=some s:=by
 obtain⟨n,rfl⟩: ∃j,n=j+1:=⟨n-1,by omega⟩
 unfold o9;rw [zK (by omega) h.1.sm,R6 5 n s.value (by omega) h.2];rfl
theorem R5{n:Nat}(hn:6000≤n){nest:List Loop}(h:BN 1000 nest):sG n nest=some nest:=by
 obtain⟨h1,h2⟩:=h;refine Ev.eq ?_;unfold sG;refine Ev.loop (fun z:List Loop×Int=> ∃i:Nat,z.2=i∧i≤nest.length∧z.1=nest.take i) (fun z=>nest.length-z.2.toNat) ?_ n _ ⟨0,rfl,by omega,by simp⟩ (by dsimp only;omega);rintro again ⟨x,z⟩ ⟨i,hz,hi,hx⟩ hr;dsimp only at hz hx⊢;subst hz;refine aG (fun hlt=>?_) fun hge=>Ev.some ?_
 ·have hg:=cP (show i<nest.length by omega);obtain⟨⟨l1,l2⟩,⟨k1,k2⟩⟩:=h2 _ (cR hg);have hxl:x.length≤1000:=by rw [hx,rQ];omega
  refine Ev.loop (fun z:List Affine×Int=> ∃t:Nat,z.2=t∧t≤nest[i].lo.length∧z.1=nest[i].lo.take t) (fun z=>nest[i].lo.length-z.2.toNat) ?_ n _ ⟨0,rfl,by omega,by simp⟩ (by dsimp only;omega);rintro again8 ⟨y,z⟩ ⟨t,hz,ht,hy⟩ hr8;dsimp only at hz hy⊢;subst hz;refine aA (aI hg) (aG (fun hlt2=>?_) fun hge2=>?_)
  ·have hgt:=cP (show t<nest[i].lo.length by omega);have hyl:y.length≤1000:=by rw [hy,rQ];omega
   refine aA (aI hgt) (aA (eH _ (l2 _ (cR hgt))) (aA (bJ (by simp;omega)) ?_));rw [aN (by omega)];refine hr8 _ ⟨t+1,by dsimp only;omega,by omega,?_⟩ (by dsimp only;omega);dsimp only;rw [xT,hgt,hy];rfl
  have hte:t=nest[i].lo.length:=by omega
  refine O8 (l:=nest[i].hi) (f:=fun a:Affine=>app [] a.coefs) (g:=fun a x18=>(⟨x18,a.const⟩:Affine)) (K:=fun x13=>Option.bind (app x [(⟨y,x13⟩:Loop)]) fun x20=>again (x20,wr ((i:Int)+1))) (fun a ha=>⟨_,eH _ (k2 a ha),rfl⟩) k1 (by omega) ?_;refine aA (bJ (by simp;omega)) ?_;rw [aN (by omega)];refine hr _ ⟨i+1,by dsimp only;omega,by omega,?_⟩ (by dsimp only;omega);dsimp only;rw [xT,hg,hx,hy,hte,pY];rfl
 have:i=nest.length:=by omega
 rw [hx,this,pY]
theorem v8{n:Nat}(hn:6000≤n){p:Prog}(h:BG 1000 p):sB n p=some p:=by
 obtain⟨⟨a1,a2⟩,h1,h2⟩:=h;refine Ev.eq ?_;unfold sB;refine O8 (n:=n) (l:=p.arrays) (f:=fun x5:Arr=>app [] x5.dims) (g:=fun x5 x6=>(⟨x5.name,x6⟩:Arr)) (K:=fun x1=>aJ (fun again11 ((x8,x9):(List Part)×Int)=>
    bif decide (x9<(p.parts.length:Int)) then(
     Option.bind (ix p.parts x9) fun x12=>
     Option.bind (sG n x12.nest) fun x13=>
     aJ (fun again17 ((x14,x15):(List Stmt)×Int)=>
      bif decide (x15<(x12.body.length:Int)) then(
       Option.bind (ix x12.body x15) fun x18=>
       Option.bind (o9 n x18) fun x19=>
       Option.bind (app x14 [x19]) fun x20=>
       again17 (x20,wr (x15+1))
      ) else(
       Option.bind (app x8 [(⟨x13,x14⟩:Part)]) fun x21=>
       again11 (x21,wr (x9+1))
      )
     ) n ([],0)
    ) else(
     some (⟨x1,x8⟩:Prog)
    )
   ) n ([],0)) (fun a ha=>⟨_,eH _ (a2 a ha),rfl⟩) a1 (by omega) ?_
 refine Ev.loop (fun z:List Part×Int=> ∃i:Nat,z.2=i∧i≤p.parts.length∧z.1=p.parts.take i) (fun z=>p.parts.length-z.2.toNat) ?_ n _ ⟨0,rfl,by omega,by simp⟩ (by dsimp only;omega);rintro again ⟨x,z⟩ ⟨i,hz,hi,hx⟩ hr;dsimp only at hz hx⊢;subst hz;refine aG (fun hlt=>?_) fun hge=>Ev.some ?_
 ·have hg:=cP (show i<p.parts.length by omega);obtain⟨n1,b1,b2⟩:=h2 _ (cR hg);have hxl:x.length≤1000:=by rw [hx,rQ];omega
  refine aA (aI hg) (aA (R5 hn n1) ?_);refine m8 (f:=o9 n) (K:=fun x14=>Option.bind (app x [(⟨p.parts[i].nest,x14⟩:Part)]) fun x21=>again (x21,wr ((i:Int)+1))) (fun s hs=>R4 hn (b2 s hs)) b1 (by omega) ?_;refine aA (bJ (by simp;omega)) ?_;rw [aN (by omega)];refine hr _ ⟨i+1,by dsimp only;omega,by omega,?_⟩ (by dsimp only;omega);dsimp only;rw [xT,hg,hx];rfl
 have:i=p.parts.length:=by omega
 rw [hx,this,pY]
theorem tK{α:Type}{l:List α}{i:Nat}{x:α}{P:α→Prop}(h: ∀y∈l,P y)(hx:P x): ∀y∈l.set i x,P y:=fun y hy=>by
 rcases vAW hy with h1|h1
 ·exact h y h1
 rw [h1];exact hx
theorem X7{α:Type}{l:List α}{x:α}{P:α→Prop}(h: ∀y∈l,P y)(hx:P x): ∀y∈l++[x],P y:=fun y hy=>by
 rcases wV.1 hy with h1|h1
 ·exact h y h1
 simp at h1;rw [h1];exact hx
theorem cS{α:Type}{l:List α}{i:Int}(h:0≤i∧i<l.length)(x:α):cQ l i x=some (l.set i.toNat x):=by unfold cQ;rw [if_pos h]
theorem aOo{B:Nat}{l:List Affine}(h:BAs B l){a:Affine}(ha:BA (B+5) a):BAs (B+5) (l++[a]):=⟨by have:=h.1;simp;omega,X7 (fun y hy=>(h.2 y hy).mono (by omega)) ha⟩
theorem aFY{B:Nat}{l:List Affine}(h:BAs B l){a b:Affine}(ha:BA (B+5) a)(hb:BA (B+5) b):BAs (B+5) (l++[a,b]):=⟨by have:=h.1;simp;omega,fun y hy=>by
 rcases wV.1 hy with h1|h1
 ·exact(h.2 y h1).mono (by omega)
 simp at h1;rcases h1 with rfl|rfl;exact ha;exact hb⟩
theorem K9{B:Nat}(h:4≤B)(c:Int):BA B ⟨[0,0,0,0],c⟩:=by unfold BA;simpa using h
theorem aDA{n:Nat}(hn:6000≤n){B:Nat}(hB:10≤B∧B≤900){k:Int}{r:L16Rd}(hr:RdOk k r)(hk:0≤k∧k≤90000000){nest:List Loop}(h:BN B nest):Ev (lV n r nest) (fun x=>BN (B+5) x.1∧RdOk (k+5) x.2):=by
 unfold lV;refine aA (R5 hn (h.mono (by omega))) (aG (fun _=>Ev.some ⟨h.mono (by omega),hr.mono (by omega)⟩) fun hne=>?_);have hpos:0<nest.length:=by omega
 have h5:=h.mono (show B≤B+5 by omega);have hl1:=h.1;have ew:wr ((nest.length:Int)-1)=(nest.length:Int)-1:=aN (by omega);rw [ew];refine Ev.jn (fun z:List UInt8×Int×List Loop=>RdOk (k+5) ⟨z.1,z.2.1⟩∧BN (B+5) z.2.2) (fun j hj=>?_) fun z hz=>Ev.some ⟨hz.2,hz.1⟩;have hset: ∀(i:Nat) (l:Loop),BAs (B+5) l.lo→BAs (B+5) l.hi→BN (B+5) (nest.set i l):=fun i l g1 g2=>⟨by rw [L5];exact h5.1,tK h5.2 ⟨g1,g2⟩⟩
 obtain⟨x0,hx0,hx0'⟩:=jR (l:=nest) (i:=0) (by omega) (by omega);obtain⟨xl,hxl,hxl'⟩:=jR (l:=nest) (i:=(nest.length:Int)-1) (by omega) (by omega);have m0:=h.2 _ (cR hx0');have ml:=h.2 _ (cR hxl');have m0':=h5.2 _ (cR hx0');have ml':=h5.2 _ (cR hxl');refine aK (lA n hr (by omega)) fun x3 ⟨_,_,r3⟩=>aG (fun _=>?_) fun _=>aG (fun _=>?_) fun _=>aG (fun _=>?_) fun _=>aG (fun _=>?_) fun _=>aG (fun _=>?_) fun _=>hj _ ⟨r3.mono (by omega),h5⟩
 ·refine aA hx0 (aK (lA n r3 (by omega)) fun x5 ⟨p0,p1,r5⟩=>aK (Y2 n ⟨p0,by have:=p1 (by omega);omega⟩) fun x6 h6=>aA (bJ (by have:=m0.1.1;simp;omega)) (aA (cS (by omega) _) (hj _ ⟨r5.mono (by omega),hset _ _ (aOo m0.1 (h6.ba.mono (by omega))) m0'.2⟩)))
 ·exact aA hxl (aA (cS (by omega) _) (hj _ ⟨r3.mono (by omega),hset _ _ ml'.1 ⟨by simp,fun a ha=>by simp at ha⟩⟩))
 ·exact aA hxl (aA (jB _ _) (aA (jB _ _) (aA (bJ (by have:=ml.2.1;simp;omega)) (aA (cS (by omega) _) (hj _ ⟨r3.mono (by omega),hset _ _ ml'.1 (aFY ml.2 (K9 (by omega) _) (K9 (by omega) _))⟩)))))
 ·exact aA (jB _ _) (aA hx0 (aA (cS (by omega) _) (hj _ ⟨r3.mono (by omega),hset _ _ m0'.1 ⟨by simp,fun a ha=>by simp at ha;subst ha;exact K9 (by omega) _⟩⟩)))
 refine Ev.loop (fun z:List Loop=>0<z.length∧BN (B+5) z) (fun z=>5-z.length) ?_ n _ ⟨hpos,h5⟩ (by omega);rintro again z ⟨z1,z2⟩ hrr;refine aG (fun hle=>?_) fun _=>hj _ ⟨r3.mono (by omega),z2⟩;obtain⟨y,hy,hy'⟩:=jR (l:=z) (i:=0) (by omega) (by omega);exact aA hy (aA (bJ (by simp;omega)) (hrr _ ⟨by simp,by simp;omega,X7 z2.2 (z2.2 _ (cR hy'))⟩ (by simp;omega)))
theorem aDz{n:Nat}(hn:6000≤n){B:Nat}(hB:10≤B∧B≤900){k:Int}{r:L16Rd}(hr:RdOk k r)(hk:0≤k∧k≤90000000){s:Stmt}(h:BS B s):Ev (lU n r s) (fun x=>BS (B+5) x.1∧RdOk (k+5) x.2):=by
 have h5:=h.mono (show B≤B+5 by omega);obtain⟨w1,v1,v2,v3,v4⟩:=h5;have hk1:=h.1.1;have hk2:=h.2.1;unfold lU;refine aA (R4 hn (h.mono (by omega))) ?_;refine Ev.jn (fun z:List UInt8×Int×List Affine×List Expr×List UInt8×Int×Int=>RdOk (k+5) ⟨z.1,z.2.1⟩∧BAs (B+5) z.2.2.1∧z.2.2.2.1.length≤B+5∧ ∀e∈z.2.2.2.1,BE (B+5) 4 e) (fun j hj=>?_) fun z hz=>Ev.some ⟨⟨hz.2.1,hz.2.2.1,v2,v3,hz.2.2.2⟩,hz.1⟩;refine aK (lA n hr (by omega)) fun x3 ⟨_,_,r3⟩=>aG (fun _=>?_) fun _=>aG (fun _=>?_) fun _=>aG (fun _=>?_) fun _=>aG (fun _=>?_) fun _=>aG (fun _=>?_) fun _=>hj _ ⟨r3.mono (by omega),w1,v1,v4⟩
 ·exact aK (aNP n r3 (by omega) (by simp)) fun x4 ⟨_,r4⟩=>hj _ ⟨r4.mono (by omega),w1,v1,v4⟩
 ·exact aK (Y2 n (v:=3) (by omega)) fun x5 h5=>aA (x:=⟨[0,0,0,0],0⟩) rfl (aA (bJ (by simp;omega)) (hj _ ⟨r3.mono (by omega),aFY h.1 (h5.ba.mono (by omega)) (K9 (by omega) _),v1,v4⟩))
 ·exact aK (jQ n r3 (by omega) (by simp)) fun x4 ⟨_,r4⟩=>hj _ ⟨r4.mono (by omega),w1,v1,v4⟩
 ·exact aK (jQ n r3 (by omega) (by simp)) fun x4 ⟨_,r4⟩=>hj _ ⟨r4.mono (by omega),w1,v1,v4⟩
 exact aA (bJ (by simp;omega)) (hj _ ⟨r3.mono (by omega),w1,by simp;omega,X7 v4 ⟨by simp,by unfold BA;simp,⟨by simp,fun a ha=>by simp at ha⟩,fun k h=>by simp at h⟩⟩)
theorem aNU{n:Nat}(hn:6000≤n){k:Int}{r:L16Rd}(hr:RdOk k r)(hk:0≤k∧k≤80000000){p:Prog}(h:BG 10 p):Ev (tL n r p) (fun x=>BG 30 x.1∧RdOk (k+30) x.2):=by
 have h30:=h.mono (show 10≤30 by omega);obtain⟨a30,p30,q30⟩:=h30;have ha:=h.1.1;have hp:=h.2.1;unfold tL;refine aA (v8 hn (h.mono (by omega))) ?_;have ew:wr ((p.parts.length:Int)-1)=(p.parts.length:Int)-1:=aN (by omega);rw [ew];refine Ev.jn (fun z:List UInt8×Int×List Arr×List Part=>RdOk (k+30) ⟨z.1,z.2.1⟩∧BR 30 z.2.2.1∧z.2.2.2.length≤30∧ ∀x∈z.2.2.2,BPt 30 x) (fun j hj=>?_) fun z hz=>Ev.some ⟨⟨hz.2.1,hz.2.2.1,hz.2.2.2⟩,hz.1⟩;have hset: ∀(i:Nat) (x:Part),BPt 30 x→(p.parts.set i x).length≤30∧ ∀y∈p.parts.set i x,BPt 30 y:=fun i x g=>⟨by rw [L5];exact p30,tK q30 g⟩
 have hsame: ∀{r':L16Rd},RdOk (k+20) r'→Ev (j (r'.b,r'.p,p.arrays,p.parts)) (fun x=>BG 30 x.1∧RdOk (k+30) x.2):=fun hr'=>hj _ ⟨hr'.mono (by omega),a30,p30,q30⟩;refine aK (lA n hr (by omega)) fun x3 ⟨_,_,r3⟩=>aG (fun _=>?_) fun _=>aG (fun _=>?_) fun _=>aG (fun _=>?_) fun _=>aG (fun _=>?_) fun _=>aG (fun _=>?_) fun _=>hsame (r3.mono (by omega))
 ·refine aK (aNP n r3 (by omega) (by simp)) fun x4 ⟨_,r4⟩=>aK (jQ n r4 (by omega) (by simp)) fun x5 ⟨_,r5⟩=>aA (bJ (by simp;omega)) (hj _ ⟨r5.mono (by omega),⟨by simp;omega,X7 a30.2 (by simp)⟩,p30,q30⟩)
 ·refine aG (fun hpos=>?_) fun _=>hsame (r3.mono (by omega));obtain⟨y,hy,hy'⟩:=jR (l:=p.arrays) (i:=0) (by omega) hpos;exact aK (jQ n r3 (by omega) (by simp)) fun x7 ⟨_,r7⟩=>aA hy (aA (cS (by omega) _) (hj _ ⟨r7.mono (by omega),⟨by rw [L5];exact a30.1,tK a30.2 (by simp)⟩,p30,q30⟩))
 ·refine aG (fun hpos=>?_) fun _=>hsame (r3.mono (by omega));obtain⟨y,hy,hy'⟩:=jR (l:=p.parts) (i:=0) (by omega) hpos;have my:=h.2.2 _ (cR hy');have my':=q30 _ (cR hy');refine aA hy (aK (aDA hn (B:=10) (by omega) r3 (by omega) my.1) fun x11 ⟨h11,r11⟩=>aK (aDA hn (B:=15) (by omega) r11 (by omega) h11) fun x12 ⟨h12,r12⟩=>aK (aDA hn (B:=20) (by omega) r12 (by omega) h12) fun x13 ⟨h13,r13⟩=>aA (cS (by omega) _) ?_);exact hj _ ⟨r13.mono (by omega),a30,hset _ _ ⟨h13.mono (by omega),my'.2.1,my'.2.2⟩⟩
 ·refine Ev.jn (fun z:Bool=>z=true→0<(p.parts.length:Int)∧ ∀x,ix p.parts ((p.parts.length:Int)-1)=some x→0<(x.body.length:Int)) (fun j15 hj15=>aG (fun hpos=>?_) fun _=>hj15 _ fun h=>by cases h) fun z hz=>?_
  ·obtain⟨y,hy,hy'⟩:=jR (l:=p.parts) (i:=(p.parts.length:Int)-1) (by omega) (by omega);refine aA hy (hj15 _ fun hd=>⟨hpos,fun x hx=>?_⟩);rw [hy] at hx;cases hx;exact of_decide_eq_true hd
  cases z with
  |false=>exact hsame (r3.mono (by omega))
  |true=>
   obtain⟨hpos,hb⟩:=hz rfl;obtain⟨y,hy,hy'⟩:=jR (l:=p.parts) (i:=(p.parts.length:Int)-1) (by omega) (by omega);have hby:=hb y hy;have my:=h.2.2 _ (cR hy');have my':=q30 _ (cR hy');obtain⟨s,hs,hs'⟩:=jR (l:=y.body) (i:=0) (by omega) hby;have ms:=my.2.2 _ (cR hs');refine bZ (aA hy (aA hs (aK (aDz hn (B:=10) (by omega) r3 (by omega) ms) fun x11 ⟨h11,r11⟩=>aK (aDz hn (B:=15) (by omega) r11 (by omega) h11) fun x12 ⟨h12,r12⟩=>aK (aDz hn (B:=20) (by omega) r12 (by omega) h12) fun x13 ⟨h13,r13⟩=>aA (cS (by omega) _) (aA (cS (by omega) _) ?_))));exact hj _ ⟨r13.mono (by omega),a30,hset _ _ ⟨my'.1,by rw [L5];exact my'.2.1,tK my'.2.2 (h13.mono (by omega))⟩⟩
 refine aG (fun hpos=>?_) fun _=>hsame (r3.mono (by omega));obtain⟨y,hy,hy'⟩:=jR (l:=p.parts) (i:=(p.parts.length:Int)-1) (by omega) (by omega);have my':=q30 _ (cR hy');exact aA hy (aA (cS (by omega) _) (hj _ ⟨r3.mono (by omega),a30,hset _ _ ⟨my'.1,by simp,fun s hs=>by simp at hs⟩⟩))
theorem aNs{xs:List Arr}(hd:gL xs):0≤iP xs∧iP xs≤36*xs.length:=by have h1:=o8 (fun x:Arr=>Y9 x.dims) xs fun y hy=>(Y8 (hd y hy)).1;have h2:=aDk (fun x:Arr=>Y9 x.dims) 36 xs fun y hy=>(Y8 (hd y hy)).2;unfold iP;omega
end Go.Lift
