/- Folded programs. -/
import Derived.Test.YtdcjmccimcppbaaGreatATran1
import Derived.Test.YtdcjmccimcppbaaGreatATran1
import Derived.Test.YtdcjmccimcppbaaGreatATran1
import Derived.Test.YtdcjmccimcppbaaGreatADrawD
set_option maxRecDepth 100000
set_option linter.unusedVariables false
namespace Go.Lift
open Go
theorem aFm{α β:Type}{f g:α→List β}{l:List α}(h: ∀x∈l,f x=g x):l.flatMap f=l.flatMap g:=by
 rw [List.flatMap_def,List.flatMap_def,Q0 h]
def kL(s:Stmt):Stmt:=⟨s.write,bV 5 s.value⟩
def dZ(x:Part):Part:=⟨x.nest,x.body.map kL⟩
def kU(p:Prog):Prog:=⟨p.arrays,p.parts.map dZ⟩
theorem aAN{n:Nat}(hn:7000≤n){s:Stmt}{d:Int}(hs:dJ s d=true):nW n s=some (kL s):=by
 obtain⟨n,rfl⟩: ∃j,n=j+1:=⟨n-1,by omega⟩
 unfold nW
 rw [D6 (by omega) hs]
 refine Ev.eq (aA rfl (aA (xW 5 n s.value (by omega) (kW hs).2.1) (Ev.some rfl)))
def sW(p:Prog):Prog×Bool:=if dL p=true then(kU p,true) else noP
theorem pU{n:Nat}(hn:7000≤n){p:Prog}(hp:BG 1000 p):gK n p=some (sW p):=by
 unfold gK sW
 refine Ev.eq (aA (gO hn hp.sm) (Ev.cond (fun h=>Ev.some ?_) (fun h=> ?_)))
 ·rw [if_neg (by simpa using h)];rfl
 ·have hv:dL p=true:=by simpa using h
  rw [if_pos hv]
  obtain⟨h1,h2,h3,h4,_⟩:=mD hv
  refine aA (aIs (by omega) hv) ?_
  refine aCW (l:=p.parts) (n:=n) (F:=fun x3 k=>aL (fun again4 ((y1,y2):(List Stmt)×Int)=>
     bif decide (y2<(x3.body.length:Int)) then(
      Option.bind (ix y1 y2) fun x4=>
      Option.bind (nW n x4) fun x5=>
      Option.bind (gD y1 y2 x5) fun x6=>
      again4 (x6,wr (y2+1))
     ) else(
      Option.bind (jQ x3.body y1) fun x8=>
      k (⟨x3.nest,y1⟩:Part)
     )
    ) n (x3.body,0)) (W:=fun _ o=>o) (m:=fun _=>(p.parts.length:Int)) (g:=dZ) (s:=0) (K:=fun z1=>some ((⟨p.arrays,z1⟩:Prog),true)) (fun _ _ _ h=>h) (fun _ _=>rfl) (by omega) (fun x hx k hk=> ?_) (by omega) (by omega) (Ev.some ?_)
  ·obtain⟨_,b1,b2,_⟩:=kC (h4 x hx)
   refine aCW (l:=x.body) (n:=n) (F:=fun x k=>Option.bind (nW n x) k) (W:=fun _ o=>o) (m:=fun _=>(x.body.length:Int)) (g:=kL) (s:=0) (K:=fun y1=>Option.bind (jQ x.body y1) fun _=>k (⟨x.nest,y1⟩:Part)) (fun _ _ _ h=>h) (fun _ _=>rfl) (by omega) (fun s hs k hk=>aA (aAN hn (b2 s hs)) hk) (by omega) (by omega) ?_
   refine aA (aBH (by simp)) ?_
   have:(⟨x.nest,x.body.take 0++(x.body.drop 0).map kL⟩:Part)=dZ x:=by simp [dZ]
   rw [this];exact hk
  ·simp [kU]
theorem M0{n:Nat}(hn:7000≤n){s:Stmt}{d:Int}(hd:d≤4)(hs:dJ s d=true)(h4:dJ s 4=true):nO n s=some (kL s,true):=by
 obtain⟨n,rfl⟩: ∃j,n=j+1:=⟨n-1,by omega⟩
 have hb:BS 4 s:=aHR hs
 unfold nO
 refine Ev.eq (aA (nM (by omega) (hb.mono (show 4≤1000 by omega)).sm 4) ?_)
 rw [h4]
 refine bY (aA (n8 (by omega) ((hb.mono (show 4≤1000 by omega)).1).sm) (aA (O4 5 n s.value (by omega) (kW hs).2.1) (Ev.some rfl)))
theorem aBm{a:Affine}{d e:Int}(h:bP a d=true)(hde:d≤e):bP a e=true:=by
 unfold bP at h⊢
 rw [Bool.and_eq_true,decide_eq_true_eq] at h
 rw [h.1,decide_eq_true (by omega)];rfl
theorem aF8{a:Access}{d e:Int}(h:fY a d=true)(hde:d≤e):fY a e=true:=by
 unfold fY at h⊢
 rw [Bool.and_eq_true,List.all_eq_true] at h
 rw [h.2,Bool.and_true]
 exact List.all_eq_true.2 (fun x hx=>aBm (h.1 x hx) hde)
theorem aIq{x:Expr}{d e:Int}(h:cR x d=true)(hde:d≤e):cR x e=true:=by
 unfold cR at h⊢
 split at h
 ·rename_i h2
  rw [if_pos h2]
  simp only [Bool.and_eq_true] at h⊢
  exact⟨h.1,h.2.1,aBm h.2.2 hde⟩
 ·rename_i h2
  rw [if_neg h2]
  split at h
  ·rename_i h3
   rw [if_pos h3]
   simp only [Bool.and_eq_true] at h⊢
   exact⟨h.1,h.2.1,aF8 h.2.2 hde⟩
  ·rename_i h3
   rw [if_neg h3];exact h
theorem O0{d e:Int}(hde:d≤e): ∀{L:Nat} {x:Expr},bL L x d=true→bL L x e=true
 |0,_,h=>by cases h
 |L+1,x,h=>by
  obtain⟨hk,ho,hs⟩:=cC h
  exact vU hk (aIq ho hde) (fun k hkm=>O0 hde (hs k hkm))
theorem aGQ{s:Stmt}{d:Int}(h:dJ s d=true):dJ s 4=true:=by
 unfold dJ at h⊢
 simp only [Bool.and_eq_true,decide_eq_true_eq] at h⊢
 exact⟨by omega,aF8 h.2.1 h.1.2,O0 h.1.2 h.2.2.1,h.2.2.2⟩
theorem aGS{s:Stmt}{d:Int}(h:dJ s d=true):d≤4:=by
 unfold dJ at h
 simp only [Bool.and_eq_true,decide_eq_true_eq] at h
 exact h.1.2
theorem xH{n:Nat}(hn:7000≤n){p:Prog}(hp:BG 1000 p):iT n p=some (sW p):=by
 unfold iT sW
 refine Ev.eq (aA (aBX (by omega) hp) (aA (jW hn hp.sm) (Ev.cond (fun h=>Ev.some ?_) (fun h=> ?_))))
 ·rw [if_neg (by simpa using h)];rfl
 ·have hv:dL p=true:=by simpa using h
  rw [if_pos hv]
  obtain⟨h1,h2,h3,h4,_⟩:=mD hv
  refine aA (sX (by omega) hp) ?_
  refine Ev.loop (fun z:List Part×Int=> ∃i:Nat,z.2=i∧i≤p.parts.length∧z.1=(p.parts.take i).map dZ++p.parts.drop i) (fun z=>p.parts.length-z.2.toNat) ?_ n _ ⟨0,rfl,by omega,by simp⟩ (by dsimp only;omega)
  rintro again ⟨x,z⟩ ⟨i,hz,hi,hx⟩ hr
  dsimp only at hz hx⊢
  subst hz
  have hpl:((p.parts.take i).map dZ).length=i:=by rw [List.length_map,List.length_take];omega
  have hxl:x.length=p.parts.length:=by rw [hx,List.length_append,hpl,List.length_drop];omega
  rw [hxl]
  refine aI (fun hlt=> ?_) (fun hge=>Ev.some ?_)
  ·obtain⟨P,hg⟩: ∃P,p.parts[i]? =some P:=⟨_,List.getElem?_eq_getElem (show i<p.parts.length by omega)⟩
   have hgx:x[i]? =some P:=by
    rw [hx,List.getElem?_append_right (by omega),hpl,Nat.sub_self,List.getElem?_drop];exact hg
   obtain⟨_,b1,b2,_⟩:=kC (h4 P (List.mem_of_getElem? hg))
   refine Ev.loop (fun z:List Part×Int=> ∃j:Nat,z.2=j∧j≤P.body.length∧z.1=x.set i ⟨P.nest,(P.body.take j).map kL++P.body.drop j⟩) (fun z=>P.body.length-z.2.toNat) ?_ n _ ⟨0,rfl,by omega,by
    dsimp only
    rw [List.take_zero,List.map_nil,List.nil_append,List.drop_zero]
    exact(aEK hgx).symm⟩ (by dsimp only;omega)
   rintro again2 ⟨y,z2⟩ ⟨j,hz2,hj,hy⟩ hr2
   dsimp only at hz2 hy⊢
   subst hz2
   have hgy:y[i]? =some ⟨P.nest,(P.body.take j).map kL++P.body.drop j⟩:=by rw [hy,List.getElem?_set_self (by omega)]
   have hbl:((P.body.take j).map kL).length=j:=by rw [List.length_map,List.length_take];omega
   have hbb:((P.body.take j).map kL++P.body.drop j).length=P.body.length:=by rw [List.length_append,hbl,List.length_drop];omega
   refine aA (aW hgy) ?_
   dsimp only
   rw [hbb]
   refine aI (fun hlt2=> ?_) (fun hge2=> ?_)
   ·obtain⟨s,hs⟩: ∃s,P.body[j]? =some s:=⟨_,List.getElem?_eq_getElem (show j<P.body.length by omega)⟩
    have hsx:((P.body.take j).map kL++P.body.drop j)[j]? =some s:=by
     rw [List.getElem?_append_right (by omega),hbl,Nat.sub_self,List.getElem?_drop];exact hs
    have hsv:=b2 s (List.mem_of_getElem? hs)
    refine aA (aW hsx) (aA (M0 hn (aGS hsv) hsv (aGQ hsv)) (aA (gL (by omega) _) (aA (gL (by rw [hy,List.length_set];omega) _) ?_)))
    rw [aM (by omega)]
    refine hr2 _ ⟨j+1,by dsimp only;omega,by omega,?_⟩ (by dsimp only;omega)
    dsimp only
    rw [hy,Int.toNat_natCast,Int.toNat_natCast,List.set_set,List.set_append_right _ _ (by omega),hbl,Nat.sub_self,kM hs,List.set_cons_zero,List.take_add_one,hs]
    simp
   ·have hje:j=P.body.length:=by omega
    rw [aM (by omega)]
    refine hr _ ⟨i+1,by dsimp only;omega,by omega,?_⟩ (by dsimp only;omega)
    dsimp only
    rw [hy,hje,List.take_length,List.drop_length,List.append_nil,hx,List.set_append_right _ _ (by omega),hpl,Nat.sub_self,kM hg,List.set_cons_zero,List.take_add_one,hg]
    simp [dZ]
  ·have:i=p.parts.length:=by omega
   rw [hx,this,List.take_length,List.drop_length,List.append_nil];rfl
theorem aHl{s:Stmt}{d:Int}(h:dJ s d=true):dJ (kL s) d=true:=by
 obtain⟨h1,h2,_⟩:=kW h
 unfold dJ at h⊢
 simp only [Bool.and_eq_true,decide_eq_true_eq] at h⊢
 exact⟨h.1,h1,fI h2,by have:=aAR h2;show kS 5 (bV 5 s.value)≤12;omega⟩
theorem aAS{list:List Arr}{s:Stmt}{d:Int}(hs:dJ s d=true){q:List Int}(h:cT list s q=true):cT list (kL s) q=true:=by
 unfold cT at h⊢
 rw [Bool.and_eq_true,List.all_eq_true] at h
 rw [show(kL s).write=s.write from rfl,h.1,Bool.true_and]
 exact List.all_eq_true.2 (fun a ha=>h.2 a (H3 (kW hs).2.1 a ha))
theorem uT(x:Part):eZ (dZ x)=eZ x:=rfl
theorem aDY{list:List Arr}{x:Part}(h:cM list x=true):cM list (dZ x)=true:=by
 obtain⟨h1,h2,h3,h4⟩:=kC h
 unfold cM uE
 rw [show(dZ x).nest=x.nest from rfl,h1,uT]
 have hb:(dZ x).body=x.body.map kL:=rfl
 rw [hb,List.length_map,decide_eq_true h2]
 simp only [Option.isSome_some,Bool.true_and,Bool.and_eq_true,List.all_eq_true]
 refine⟨fun s hs=> ?_,fun s hs q hq=> ?_⟩
 ·obtain⟨t,ht,rfl⟩:=List.mem_map.1 hs
  exact aHl (h3 t ht)
 ·obtain⟨t,ht,rfl⟩:=List.mem_map.1 hs
  have:=h4 t ht q hq
  exact⟨aAS (h3 t ht) this.1,this.2⟩
theorem aAT(p:Prog):insts (kU p).parts=insts p.parts:=by
 unfold insts kU
 dsimp only
 rw [List.zipIdx_map,List.flatMap_map]
 refine aFm (fun y _=> ?_)
 obtain⟨x,j⟩:=y
 show instP j (dZ x)=instP j x
 unfold instP
 rw [uT,show(dZ x).body.length=x.body.length by simp [dZ]]
theorem aDn{p:Prog}(h:dL p=true):dL (kU p)=true:=by
 unfold dL o5 at h⊢
 simp only [Bool.and_eq_true,decide_eq_true_eq,List.all_eq_true] at h⊢
 obtain⟨⟨h1,h2,h3⟩,h4⟩:=h
 refine⟨⟨h1,by simpa [kU] using h2,fun x hx=> ?_⟩,?_⟩
 ·obtain⟨y,hy,rfl⟩:=List.mem_map.1 hx
  exact aDY (h3 y hy)
 ·show((p.parts.map dZ).map dI).sum≤120
  rw [List.map_map,show p.parts.map (dI ∘ dZ)=p.parts.map dI from List.map_congr_left (fun x _=>by
   show dI (dZ x)=dI x
   unfold dI
   rw [uT,show(dZ x).body.length=x.body.length by simp [dZ]])]
  exact h4
theorem aDZ{p:Prog}(h:dL p=true):kU (kU p)=kU p:=by
 obtain⟨_,_,_,h4,_⟩:=mD h
 unfold kU
 dsimp only
 rw [List.map_map]
 congr 1
 refine List.map_congr_left (fun x hx=> ?_)
 obtain⟨_,_,b2,_⟩:=kC (h4 x hx)
 show dZ (dZ x)=dZ x
 unfold dZ
 dsimp only
 rw [List.map_map]
 congr 1
 refine List.map_congr_left (fun s hs=> ?_)
 show kL (kL s)=kL s
 unfold kL
 dsimp only
 rw [H2 (kW (b2 s hs)).2.1]
theorem aFl{p:Prog}(hp:BG 1000 p):BG 1000 (sW p).1:=by
 unfold sW
 split
 ·rename_i h;exact(aHT (aDn h)).mono (by omega)
 ·exact aIu
theorem aD0{p:Prog}(hv:dL p=true){m:List Int}(hm:iO p.arrays m):jZ (kU p) m (insts (kU p).parts)=jZ p m (insts p.parts):=by
 rw [aAT]
 have hok: ∀x∈insts p.parts,tD p x:=fun x hx=>insts_mem hx
 revert hok
 unfold jZ
 generalize insts p.parts=l
 intro hok
 induction l generalizing m with
 |nil=>rfl
 |cons x l ih=>
  simp only [List.foldl_cons]
  have hx:=hok x List.mem_cons_self
  have e:C6 (kU p) m x=C6 p m x:=by
   obtain⟨i,k,P,s,d,e1,e2,e3,e4,e5,e6,e7,e8⟩:=inst_d hv hx
   have e9:B6 (kU p) x=some (kL s):=by
    unfold B6 kU
    dsimp only
    rw [List.getElem?_map,e1,Int.toNat_natCast,e3]
    show(dZ P).body[x.stmt.toNat]? =_
    unfold dZ
    dsimp only
    rw [List.getElem?_map,e2,Int.toNat_natCast,e4];rfl
   unfold C6
   rw [e5,e9]
   dsimp only
   show m.set (dW p.arrays s.write x.point 0).toNat (iP 5 p.arrays m (bV 5 s.value) x.point)=_
   rw [H1 hm (kW e6).2.1]
  rw [e]
  exact ih (U1 hv hm hx) (fun y hy=>hok y (List.mem_cons_of_mem _ hy))
theorem aAH: ∀(L n:Nat) (k:Int) (r:L16Rd),5000+L≤n→L≤2→RdOk k r→0≤k→k≤80000000+10000*(2-(L:Int))→Ev (s_l13Value (n+1) r 0 ((L:Int)+1)) (fun x=>BE 10 (L+1) x.1∧RdOk (k+gZ L) x.2):=by
 have leaf: ∀(L n:Nat) (k:Int) (r:L16Rd),5000≤n→RdOk k r→0≤k→k≤80100000→
   Ev (Option.bind (aY n r 5) fun x6=>bif decide (x6.1=0) then(Option.bind (aS n x6.2 [0,3,(-2),99]) fun x7=>Option.bind (cQ n x7.1) fun x8=>some ((⟨2,0,x8,(⟨[],[]⟩:Access),[]⟩:Expr),x7.2)) else(bif decide (x6.1=1) then(Option.bind (jR n x6.2 0) fun x9=>some ((⟨3,0,(⟨[],0⟩:Affine),x9.1,[]⟩:Expr),x9.2)) else(Option.bind (aS n x6.2 [0,1,2,50,99,0,1]) fun x10=>Option.bind (nL n x10.1) fun x11=>some (x11,x10.2)))) (fun x=>BE 10 (L+1) x.1∧RdOk (k+25) x.2):=by
  intro L n k r hn hr h0 h1
  refine aJ (gS n hr (by omega)) (fun x6 ⟨_,_,r6⟩=>aI (fun _=> ?_) (fun _=>aI (fun _=> ?_) (fun _=> ?_)))
  ·exact aJ (gT n r6 (by omega) (by simp)) (fun x7 ⟨_,r7⟩=>aA (gG n x7.1) (Ev.some ⟨⟨by simp,by unfold BA;simp,Y9,fun k h=>by simp at h⟩,r7.mono (by omega)⟩))
  ·exact aJ (W9 hn r6 (by omega) (by omega)) (fun x7 ⟨h7,r7⟩=>Ev.some ⟨⟨by simp,ba0,h7,fun k h=>by simp at h⟩,r7.mono (by omega)⟩)
  ·exact aJ (gT n r6 (by omega) (by simp)) (fun x7 ⟨_,r7⟩=>aA (x:=qO x7.1) rfl (Ev.some ⟨⟨by simp [qO],ba0,Y9,fun k h=>by simp [qO] at h⟩,r7.mono (by omega)⟩))
 intro L
 induction L with
 |zero=>
  intro n k r hn hL hr h0 h1
  unfold s_l13Value
  refine Ev.jn (fun z:List UInt8×Int×Bool=>RdOk k ⟨z.1,z.2.1⟩∧z.2.2=true) (fun j hj=>aI (fun _=>hj _ ⟨hr,rfl⟩) (fun h=>absurd (show((0:Nat):Int)+1<2 by omega) h)) (fun z hz=> ?_)
  obtain⟨z1,z2,z3⟩:=z
  obtain⟨hz1,hz2⟩:=hz
  dsimp only at hz1 hz2⊢
  subst hz2
  exact(leaf 0 n k _ (by omega) hz1 h0 (by omega)).mono (fun x hx=>⟨hx.1,hx.2.mono (by simp only [gZ];omega)⟩)
 |succ L ih=>
  intro n k r hn hL hr h0 h1
  have hcp:=yF L
  have hcu:gZ L≤210:=I8 (by omega)
  unfold s_l13Value
  refine Ev.jn (fun z:List UInt8×Int×Bool=>RdOk (k+1) ⟨z.1,z.2.1⟩) (fun j hj=>aI (fun h=>hj _ (hr.mono (by omega))) (fun h=>aJ (gS n hr (by omega)) (fun x2 ⟨_,_,r2⟩=>hj _ r2))) (fun z hz=> ?_)
  obtain⟨z1,z2,z3⟩:=z
  dsimp only at hz⊢
  cases z3 with
  |true=>exact(leaf (L+1) n (k+1) _ (by omega) hz (by omega) (by omega)).mono (fun x hx=>⟨hx.1,hx.2.mono (by simp only [gZ];omega)⟩)
  |false=>
   refine bY (aJ (gT n hz (by omega) (by simp)) (fun x10 ⟨_,r10⟩=> ?_))
   obtain⟨n,rfl⟩: ∃j,n=j+1:=⟨n-1,by omega⟩
   have ew:wr (((L+1:Nat):Int)+1-1)=(L:Int)+1:=by rw [aM (by omega)];omega
   rw [ew]
   refine Ev.loop (fun z:List UInt8×Int×List Expr×Int=>0≤z.2.2.2∧z.2.2.2≤2∧(z.2.2.1.length:Int)=z.2.2.2∧RdOk (k+2+gZ L*z.2.2.2) ⟨z.1,z.2.1⟩∧ ∀e∈z.2.2.1,BE 10 (L+1) e) (fun z=>(2-z.2.2.2).toNat) ?_ (n+1) _ ⟨by dsimp only;omega,by dsimp only;omega,by simp,r10.mono (by simp;omega),fun l h=>by simp at h⟩ (by dsimp only;omega)
   rintro again ⟨b,q,ls,c⟩ ⟨i1,i2,i3,i4,i5⟩ hrr
   dsimp only at i1 i2 i3 i4 i5⊢
   have hcc:0≤gZ L*c∧gZ L*c≤2*gZ L:=by
    have h01:c=0∨c=1∨c=2:=by omega
    rcases h01 with rfl|rfl|rfl<;>omega
   refine aI (fun hlt=> ?_) (fun hge=>Ev.some ⟨⟨by dsimp only;omega,ba0,Y9,i5⟩,i4.mono (by simp only [gZ];omega)⟩)
   refine aJ (ih n _ _ (by omega) (by omega) i4 (by omega) (by omega)) (fun x17 ⟨h17,r17⟩=>aA (cO (by simp;omega)) ?_)
   rw [aM (by omega)]
   refine hrr _ ⟨by dsimp only;omega,by dsimp only;omega,by dsimp only;simp;omega,r17.mono (by dsimp only;rw [Int.mul_add];omega),fun e he=> ?_⟩ (by dsimp only;omega)
   rcases List.mem_append.1 he with h|h
   ·exact i5 e h
   ·simp at h;subst h;exact h17
def stQ(s:Stmt):Prop:=BAs 10 s.write.subs∧ ∀j,SmE j s.value
def ptQ(x:Part):Prop:=BN 10 x.nest∧x.body.length≤10∧ ∀s∈x.body,stQ s
theorem aIp{x:Part}(h:BPt 10 x):ptQ x:=⟨h.1,h.2.1,fun s hs=>⟨(h.2.2 s hs).1,fun j=>((h.2.2 s hs).2.mono (show 10≤1000 by omega) (Nat.le_refl _)).sm j⟩⟩
theorem aIo{x:Part}(h:ptQ x):L5 x:=⟨(h.1.mono (show 10≤1000 by omega)).sm,by have:=h.2.1;omega,fun s hs=>⟨((h.2.2 s hs).1.mono (show 10≤1000 by omega)).sm,(h.2.2 s hs).2 5⟩⟩
theorem aGU{k:Int}{a b:Expr}(ha: ∀j,SmE j a)(hb: ∀j,SmE j b): ∀j,SmE j ⟨k,0,⟨[],0⟩,⟨[],[]⟩,[a,b]⟩
 |0=>trivial
 |j+1=>⟨by simp,by unfold SmA;simp,⟨by simp,fun x hx=>by cases hx⟩,fun x hx=>by
  simp at hx
  rcases hx with rfl|rfl
  ·exact ha j
  ·exact hb j⟩
theorem M1{k:Int}{r:L16Rd}(hr:RdOk k r)(hk:0≤k∧k≤500000):Ev (jV N r) (fun x=>BG 10 x.1∧RdOk (k+300000) x.2):=by
 have hN:N=100000:=rfl
 unfold jV
 refine aJ (aDN hr (by omega)) (fun x1 ⟨h1,r1⟩=>aA (sX (by omega) (h1.mono (by omega))) ?_)
 have hpl:=h1.2.1
 refine Ev.loop (fun z:List UInt8×Int×List Part×Int=> ∃i:Nat,z.2.2.2=i∧i≤x1.1.parts.length∧z.2.2.1.length=x1.1.parts.length∧(∀x∈z.2.2.1,ptQ x)∧RdOk (k+210000+4000*(i:Int)) ⟨z.1,z.2.1⟩) (fun z=>x1.1.parts.length-z.2.2.2.toNat) ?_ N _ ⟨0,rfl,by omega,rfl,fun x hx=>aIp (h1.2.2 x hx),by simpa using r1⟩ (by(try dsimp only);omega)
 rintro again ⟨b,q,ps,z⟩ ⟨i,hz,hi,hl,hps,hrd⟩ hrr
 dsimp only at hz hl hps hrd⊢
 subst hz
 rw [hl]
 refine aI (fun hlt=> ?_) (fun hge=> ?_)
 ·refine Ev.loop (fun z:List UInt8×Int×List Part×Int=> ∃c:Nat,z.2.2.2=c∧c≤10∧z.2.2.1.length=x1.1.parts.length∧(∀x∈z.2.2.1,ptQ x)∧RdOk (k+210000+4000*(i:Int)+300*(c:Int)) ⟨z.1,z.2.1⟩) (fun z=>11-z.2.2.2.toNat) ?_ N _ ⟨0,rfl,by omega,hl,hps,by simpa using hrd⟩ (by(try dsimp only);omega)
  rintro again2 ⟨b2,q2,ps2,z2⟩ ⟨c,hz2,hc,hl2,hps2,hrd2⟩ hrr2
  dsimp only at hz2 hl2 hps2 hrd2⊢
  subst hz2
  obtain⟨P,hP,hP2⟩:=jL (l:=ps2) (i:=(i:Int)) (by omega) (by omega)
  have hPq:=hps2 P (List.mem_of_getElem? hP2)
  have hPb:=hPq.2.1
  refine aA hP (aI (fun hlt2=> ?_) (fun hge2=> ?_))
  ·obtain⟨s,hs,hs2⟩:=jL (l:=P.body) (i:=(c:Int)) (by omega) (by omega)
   have hsq:=hPq.2.2 s (List.mem_of_getElem? hs2)
   refine Ev.jn (fun z:List UInt8×Int×List Part×Int×List Expr=>z.2.2.1.length=x1.1.parts.length∧(∀x∈z.2.2.1,ptQ x)∧RdOk (k+210000+4000*(i:Int)+300*(c:Int)+200) ⟨z.1,z.2.1⟩) (fun j hj=> ?_) (fun z hz=> ?_)
   ·refine aJ (gT N hrd2 (by omega) (by simp)) (fun x17 ⟨_,r17⟩=>aA hs (aJ (P:=fun x=>BE 10 2 x.1∧RdOk (k+210000+4000*(i:Int)+300*(c:Int)+1+90) x.2) ?_ (fun x19 ⟨h19,r19⟩=>aJ (gS N r19 (by omega)) (fun x20 ⟨_,_,r20⟩=>aI (fun _=> ?_) (fun _=> ?_)))))
    ·exact(aAH 1 99999 _ _ (by omega) (by omega) r17 (by omega) (by omega)).mono (fun x hx=>hx)
    ·have hsn:stQ ({s with value:=(⟨x17.1,0,⟨[],0⟩,⟨[],[]⟩,[s.value,x19.1]⟩:Expr)}):=⟨hsq.1,aGU hsq.2 (fun j=>(h19.mono (show 10≤1000 by omega) (Nat.le_refl _)).sm j)⟩
     refine aA (gL (by omega) _) (aA (gL (by omega) _) (hj _ ⟨by(try dsimp only);rw [List.length_set];exact hl2,tH hps2 ⟨hPq.1,by(try dsimp only);rw [List.length_set];exact hPb,tH hPq.2.2 hsn⟩,r20.mono (by(try dsimp only);omega)⟩))
    ·exact hj _ ⟨hl2,hps2,r20.mono (by(try dsimp only);omega)⟩
   ·obtain⟨x23,x24,x25,x26,x27⟩:=z
    obtain⟨a1,a2,a3⟩:=hz
    dsimp only at a1 a2 a3⊢
    rw [aM (by omega)]
    exact hrr2 _ ⟨c+1,by(try dsimp only);omega,by omega,a1,a2,a3.mono (by(try dsimp only);omega)⟩ (by(try dsimp only);omega)
  ·rw [aM (by omega)]
   exact hrr _ ⟨i+1,by(try dsimp only);omega,by omega,hl2,hps2,hrd2.mono (by(try dsimp only);omega)⟩ (by(try dsimp only);omega)
 ·have hsm:SmP ⟨x1.1.arrays,ps⟩:=⟨((h1.1.mono (show 10≤1000 by omega)):BR 1000 _),by(try dsimp only);omega,fun x hx=>aIo (hps x hx)⟩
  refine aA (jW (by omega) hsm) (Ev.cond (fun hv=>Ev.some ⟨(aHT hv).mono (by omega),hrd.mono (by(try dsimp only);omega)⟩) (fun _=>Ev.some ⟨h1,hrd.mono (by(try dsimp only);omega)⟩))
theorem aA1(code:List UInt8):Ev (eV N code) (fun p=>BG 1000 p):=by
 have hN:N=100000:=rfl
 unfold eV
 exact aJ (aG2 code) (fun x1 r1=>aJ (M1 r1 (by omega)) (fun x2 ⟨h2,r2⟩=>aJ (aG8 (by omega) r2 (by omega) h2) (fun x3 ⟨h3,_⟩=>Ev.some (h3.mono (show 30≤1000 by omega)))))
theorem zM(code more:List UInt8):iY N code more=some true:=by
 have hN:N=100000:=rfl
 refine Ev.eq ?_
 unfold iY
 refine aIJ (fun hml=>aJ (aA1 code) (fun p hp=> ?_))
 have hR:=aFl hp
 refine aII (REST:=fun x4 x5=>_) hR (pU (by omega) hp) (xH (by omega) hp) (fun h=> ?_)
 have hv:dL p=true:=by
  unfold sW at h
  split at h
  ·assumption
  ·cases h
 have e:sW p=(kU p,true):=by unfold sW;rw [if_pos hv]
 rw [e] at hR⊢
 have hw:=aDn hv
 have e2:sW (kU p)=(kU p,true):=by unfold sW;rw [if_pos hw,aDZ hv]
 refine aA (pU (by omega) hR) ?_
 rw [e2]
 refine Ev.jn (fun z=>z=true) (fun j hj=> ?_) (fun z hz=>Ev.some hz)
 refine aA (gO (by omega) hR.sm) ?_
 rw [hw]
 refine bX (aA (aF7 hp.sm hR.sm hv hw rfl (fun m hm=>aD0 hv hm) (s:=(more.length:Int)) ⟨by omega,hml⟩) (bX (bX (aA (aAB (by omega) hR) (hj _ rfl)))))
end Go.Lift
