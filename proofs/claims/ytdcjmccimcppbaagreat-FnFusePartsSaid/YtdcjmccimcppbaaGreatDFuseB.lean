/- Two parts fused into one: the runs, and the law. -/
import Derived.Test.YtdcjmccimcppbaaGreatDTran1
import Derived.Test.YtdcjmccimcppbaaGreatDTran1
set_option maxRecDepth 100000
set_option linter.unusedVariables false
namespace Go.Lift
open Go
def aAa(i b:Nat)(x:Inst):Inst:=if x.part<(i:Int)+1 then x else if x.part=(i:Int)+1 then⟨(i:Int),x.stmt+(b:Int),x.point⟩ else⟨x.part-1,x.stmt,x.point⟩
def atQ(i:Int)(k:Nat)(q:List Int):List Inst:=(List.range k).map fun(k:Nat)=>(⟨i,(k:Int),q⟩:Inst)
theorem insts_one(A C:List Part)(P:Part):insts (A++P::C)=insts A++(instP A.length P++((insts C).map (iY 1)).map (iY A.length)):=by
 rw [insts_app,insts_cons,List.map_append]
 congr 2
 exact instP_rho (fun s q=>by unfold iY;simp)
theorem instP_atQ(i:Nat)(P:Part):instP i P=(cA P).flatMap (atQ (i:Int) P.body.length):=rfl
theorem tN{α β γ:Type}{f:α→List β}{g:β→γ}{h:α→List γ}: ∀{l:List α},(∀x∈l,(f x).map g=h x)→(l.flatMap f).map g=l.flatMap h
 | [],_=>rfl
 |x::l,hx=>by
  rw [List.flatMap_cons,List.flatMap_cons,List.map_append,hx x List.mem_cons_self,tN (fun y hy=>hx y (List.mem_cons_of_mem _ hy))]
theorem aIY(i:Int)(a b:Nat)(q:List Int):atQ i (a+b) q=atQ i a q++(List.range b).map (fun(k:Nat)=>(⟨i,(k:Int)+(a:Int),q⟩:Inst)):=by
 unfold atQ
 rw [List.range_add,List.map_append,List.map_map]
 congr 1
 refine List.map_congr_left (fun k _=> ?_)
 simp only [Function.comp_apply,Inst.mk.injEq,true_and,and_true]
 omega
theorem xA{P Q:Part}(h:P.nest=Q.nest):cA P=cA Q:=by unfold cA;rw [h]
theorem aDd{p:Prog}{i:Nat}{P1 P2:Part}(h1:p.parts[i]? =some P1)(h2:p.parts[i+1]? =some P2)(hn:P1.nest=P2.nest):
  ∃A Z,insts p.parts=A++((cA P1).flatMap (atQ (i:Int) P1.body.length)++((cA P1).flatMap (atQ ((i:Int)+1) P2.body.length)++Z))∧
   insts (w9 p i 2 [oE P1 P2]).parts=(A++((cA P1).flatMap (fun q=>atQ (i:Int) P1.body.length q++atQ ((i:Int)+1) P2.body.length q)++Z)).map (aAa i P1.body.length):=by
 have hi:=(List.getElem?_eq_some_iff.1 h2).1
 have ht:(p.parts.take i).length=i:=by rw [List.length_take];omega
 refine⟨insts (p.parts.take i),((insts (p.parts.drop (i+2))).map (iY 1)).map (fun x=>iY i (iY 1 x)),?_,?_⟩
 ·conv=>lhs;rw [aJK h1 h2]
  rw [insts_two,ht,instP_atQ,instP_atQ,xA (P:=P2) (Q:=P1) hn.symm]
  rfl
 ·show insts (p.parts.take i++[oE P1 P2]++p.parts.drop (i+2))=_
  rw [List.append_assoc,List.singleton_append,insts_one,ht,List.map_append,List.map_append]
  congr 1
  ·exact(K5 (fun x hx=>by
    have:=insts_lt hx
    unfold aAa
    rw [if_pos (by omega)])).symm
  ·congr 1
   ·rw [instP_atQ,xA (P:=oE P1 P2) (Q:=P1) rfl]
    refine(tN (fun q _=> ?_)).symm
    show _=atQ (i:Int) (P1.body++P2.body).length q
    rw [List.length_append,aIY,List.map_append]
    congr 1
    ·refine K5 (fun x hx=> ?_)
     unfold atQ at hx
     obtain⟨k,_,rfl⟩:=List.mem_map.1 hx
     unfold aAa
     rw [if_pos (by dsimp only;omega)]
    ·unfold atQ
     rw [List.map_map]
     refine List.map_congr_left (fun k _=> ?_)
     simp only [Function.comp_apply]
     unfold aAa
     rw [if_neg (by dsimp only;omega),if_pos rfl]
   ·rw [List.map_map,List.map_map,List.map_map]
    refine List.map_congr_left (fun x hx=> ?_)
    have:=insts_lt hx
    simp only [Function.comp_apply]
    unfold aAa iY
    dsimp only
    rw [if_neg (by omega),if_neg (by omega)]
    simp only [Inst.mk.injEq,and_true]
    omega
theorem Z9{p:Prog}{i many:Nat}{ys:List Part}(hi:i+many≤p.parts.length)(j:Nat):(w9 p i many ys).parts[j]? =if j<i then p.parts[j]? else if j<i+ys.length then ys[j-i]? else p.parts[j-ys.length+many]? :=by
 show(p.parts.take i++ys++p.parts.drop (i+many))[j]? =_
 have ht:(p.parts.take i).length=i:=by rw [List.length_take];omega
 rw [List.append_assoc]
 by_cases h1:j<i
 ·rw [if_pos h1,List.getElem?_append_left (by omega),List.getElem?_take,if_pos h1]
 ·rw [if_neg h1,List.getElem?_append_right (by omega),ht]
  by_cases h2:j<i+ys.length
  ·rw [if_pos h2,List.getElem?_append_left (by omega)]
  ·rw [if_neg h2,List.getElem?_append_right (by omega),List.getElem?_drop]
   congr 1
   omega
theorem aFg{p:Prog}{i:Nat}{P1 P2:Part}(h1:p.parts[i]? =some P1)(h2:p.parts[i+1]? =some P2){x:Inst}(hx:cM p x):lC (w9 p i 2 [oE P1 P2]) (aAa i P1.body.length x)=lC p x∧(aAa i P1.body.length x).point=x.point:=by
 have hi:=(List.getElem?_eq_some_iff.1 h2).1
 obtain⟨i',k,P,s,e1,e2,e3,e4,e5⟩:=hx
 have hk:=(List.getElem?_eq_some_iff.1 e4).1
 have hi':=(List.getElem?_eq_some_iff.1 e3).1
 unfold aAa
 by_cases c1:x.part<(i:Int)+1
 ·rw [if_pos c1]
  refine⟨?_,rfl⟩
  unfold lC
  rw [e1,e2,Int.toNat_natCast,Int.toNat_natCast,Z9 (by omega)]
  by_cases c2:i'<i
  ·rw [if_pos c2]
  ·have:i'=i:=by omega
   subst this
   rw [if_neg c2,if_pos (by simp),e3,Nat.sub_self]
   rw [h1] at e3;cases e3
   show(P1.body++P2.body)[k]? =P1.body[k]?
   rw [List.getElem?_append_left hk]
 ·rw [if_neg c1]
  by_cases c2:x.part=(i:Int)+1
  ·rw [if_pos c2]
   refine⟨?_,rfl⟩
   have:i'=i+1:=by omega
   subst this
   rw [h2] at e3;cases e3
   unfold lC
   dsimp only
   rw [e1,e2,Int.toNat_natCast,Int.toNat_natCast,Z9 (by omega),if_neg (by omega),if_pos (by simp),Nat.sub_self,h2,show((k:Int)+(P1.body.length:Int)).toNat=P1.body.length+k by omega]
   show(P1.body++P2.body)[P1.body.length+k]? =P2.body[k]?
   rw [List.getElem?_append_right (by omega)]
   congr 1
   omega
  ·rw [if_neg c2]
   refine⟨?_,rfl⟩
   unfold lC
   dsimp only
   rw [e1,e2,Int.toNat_natCast,Int.toNat_natCast,show((i':Int)-1).toNat=i'-1 by omega,Z9 (by omega),if_neg (by omega),if_neg (by simp;omega)]
   congr 2
   simp only [List.length_singleton]
   omega
theorem aBi{p q:Prog}(ha:q.arrays=p.arrays){σ:Inst→Inst}: ∀{l:List Inst} {m:List Int},(∀x∈l,lC q (σ x)=lC p x∧(σ x).point=x.point)→cB q m (l.map σ)=cB p m l
 | [],m,_=>rfl
 |x::l,m,h=>by
  obtain⟨h1,h2⟩:=h x List.mem_cons_self
  have e:lJ q m (σ x)=lJ p m x:=by unfold lJ;rw [h1,h2,ha]
  show cB q (lJ q m (σ x)) (l.map σ)=cB p (lJ p m x) l
  rw [e]
  exact aBi ha (fun y hy=>h y (List.mem_cons_of_mem _ hy))
theorem aEI{i:Int}{k:Nat}{q:List Int}{x:Inst}(h:x∈atQ i k q):x.part=i∧x.point=q∧0≤x.stmt∧x.stmt<(k:Int):=by
 unfold atQ at h
 obtain⟨j,hj,rfl⟩:=List.mem_map.1 h
 have:=List.mem_range.1 hj
 exact⟨rfl,rfl,by dsimp only;omega,by dsimp only;omega⟩
theorem aGL{p:Prog}(hv:bJ p=true){i:Nat}{P1 P2:Part}(h1:p.parts[i]? =some P1)(h2:p.parts[i+1]? =some P2)(hn:P1.nest=P2.nest)(hd:(xT p).any (wO p (i:Int))=false){m:List Int}(hm:gU p.arrays m):
  cB (w9 p i 2 [oE P1 P2]) m (insts (w9 p i 2 [oE P1 P2]).parts)=cB p m (insts p.parts):=by
 obtain⟨A,Z,e1,e2⟩:=aDd h1 h2 hn
 have hok: ∀x∈A++((cA P1).flatMap (atQ (i:Int) P1.body.length)++((cA P1).flatMap (atQ ((i:Int)+1) P2.body.length)++Z)),cM p x:=fun x hx=>insts_mem (by rw [e1];exact hx)
 have hA: ∀x∈A,cM p x:=fun x hx=>hok x (List.mem_append_left _ hx)
 have hX: ∀q∈cA P1,∀x∈atQ (i:Int) P1.body.length q,cM p x:=fun q hq x hx=>hok x (List.mem_append_right _ (List.mem_append_left _ (List.mem_flatMap.2 ⟨q,hq,hx⟩)))
 have hY: ∀q∈cA P1,∀x∈atQ ((i:Int)+1) P2.body.length q,cM p x:=fun q hq x hx=>hok x (List.mem_append_right _ (List.mem_append_right _ (List.mem_append_left _ (List.mem_flatMap.2 ⟨q,hq,hx⟩))))
 have hZ: ∀x∈Z,cM p x:=fun x hx=>hok x (List.mem_append_right _ (List.mem_append_right _ (List.mem_append_right _ hx)))
 have hP1:=(fJ hv).2.2.2.1 P1 (List.mem_of_getElem? h1)
 rw [e2,aBi (p:=p) (q:=w9 p i 2 [oE P1 P2]) (σ:=aAa i P1.body.length) rfl (fun x hx=>aFg h1 h2 ?_),e1,dW,dW,dW,V0 hv hX hY ?_ (nG hv hA hm),dW,dW,dW]
 ·rw [z7 hP1]
  have hpp:=z7 hP1
  refine(aEe P1.nest []).imp_of_mem (fun {a b} ha hb hl y hy x hx=> ?_)
  rw [←hpp] at ha hb
  obtain⟨s,t,hst,g1,g2⟩:=aIF (A:=A) (Z:=Z) (List.mem_flatMap.2 ⟨b,hb,hx⟩) (List.mem_flatMap.2 ⟨a,ha,hy⟩)
  rw [←e1] at g1 g2
  refine aHr hv (fun x hx=>insts_mem hx) s t x y hst g1 g2 (fun d hdm hdd=> ?_)
  obtain⟨x1,x2,_⟩:=aEI hx
  obtain⟨y1,y2,_⟩:=aEI hy
  have:wO p (i:Int) d=true:=by
   unfold wO
   rw [show d.fromF=(s:Int) from hdd.1,show d.toF=(t:Int) from hdd.2,Int.toNat_natCast,Int.toNat_natCast,g1,g2]
   dsimp only
   rw [x1,y1,x2,y2,hl,decide_eq_true rfl,decide_eq_true rfl];rfl
  rw [List.any_eq_true.2 ⟨d,hdm,this⟩] at hd
  cases hd
 ·rcases List.mem_append.1 hx with h|h
  ·exact hA x h
  ·rcases List.mem_append.1 h with h|h
   ·obtain⟨q,hq,h⟩:=List.mem_flatMap.1 h
    rcases List.mem_append.1 h with h|h
    ·exact hX q hq x h
    ·exact hY q hq x h
   ·exact hZ x h
theorem aBT(code:List UInt8):Ev (gJ N code) (fun x=>BG 1000 x.1∧ -1≤x.2∧x.2≤9):=by
 have hN:N=100000:=rfl
 unfold gJ
 refine aJ (aIo code) (fun x1 r1=>aJ (P:=fun x=>BG 1000 x.1∧ -1≤x.2.1∧x.2.1≤9) ?_ (fun x2 h2=>Ev.some h2))
 unfold wX
 refine aJ (aE2 r1 (by omega)) (fun x1 ⟨h1,r1⟩=>aJ (aIt (by omega) r1 (by omega) h1) (fun x2 ⟨h2,r2⟩=>aJ (iX N r2 (by omega) (by simp)) (fun x3 ⟨m3,r3⟩=>aJ (iX N r3 (by omega) (by simp)) (fun x4 ⟨_,r4⟩=>aJ (iX N r4 (by omega) (by simp)) (fun x5 _=>Ev.some ⟨h2.mono (show 30≤1000 by omega),?_⟩)))))
 simp at m3
 dsimp only
 omega
theorem aGM{p:Prog}(hp:BG 1000 p)(part:Int):BG 1000 (uZ p part).1:=by
 unfold uZ
 split
 ·rename_i hc
  split
  ·rename_i P1 P2 e1 e2
   split
   ·obtain⟨i1,rfl,_,g1⟩:=aAo e1
    obtain⟨i2,_,_,g2⟩:=aAo e2
    exact aIK (Z8 ((X7 hc.1).mono (show 4≤900 by omega)) (by simp) (fun y hy=>by rw [List.mem_singleton] at hy;subst hy;exact M3 hc.1 (List.mem_of_getElem? g1) (List.mem_of_getElem? g2)))
   ·exact aC4
  ·exact aC4
 ·exact aC4
theorem aII{p q:Prog}{part:Int}(h:uZ p part=(q,true)):bJ p=true∧ ∃(i:Nat) (P1 P2:Part),part=i∧p.parts[i]? =some P1∧p.parts[i+1]? =some P2∧P1.nest=P2.nest∧(xT p).any (wO p (i:Int))=false∧q=w9 p i 2 [oE P1 P2]∧bJ q=true:=by
 unfold uZ at h
 split at h
 ·rename_i hc
  split at h
  ·rename_i P1 P2 e1 e2
   split at h
   ·rename_i hf
    obtain⟨i1,rfl,_,g1⟩:=aAo e1
    obtain⟨i2,e,_,g2⟩:=aAo e2
    have:i2=i1+1:=by omega
    subst this
    unfold aEw at hf
    simp only [Bool.and_eq_true,Bool.not_eq_true'] at hf
    obtain⟨rfl,hq⟩:=aJ8 h
    exact⟨hc.1,i1,P1,P2,rfl,g1,g2,aBz hf.1,hf.2,rfl,hq⟩
   ·cases h
  ·cases h
 ·cases h
theorem R7(code more:List UInt8):lW N code more=some true:=by
 have hN:N=100000:=rfl
 refine Ev.eq ?_
 unfold lW
 refine aJ6 (fun hml=>aJ (aBT code) (fun x1 hp=> ?_))
 obtain⟨p,part⟩:=x1
 dsimp only at hp⊢
 obtain⟨hp,hb⟩:=hp
 have hR:=aGM hp part
 refine aJ5 (REST:=fun x4 x5=>_) hR (aFe (by omega) hp hb) (aEW (by omega) hp hb) (fun h=> ?_)
 have hq:uZ p part=((uZ p part).1,true):=by rw [←h]
 obtain⟨hv,i,P1,P2,rfl,h1,h2,hn,hd,hqe,hqv⟩:=aII hq
 rw [hqe] at hR hqv⊢
 refine Ev.jn (fun z=>z=true) (fun j hj=> ?_) (fun z hz=>Ev.some hz)
 refine aA (fE (by omega) hR.sm) ?_
 rw [hqv]
 exact bW (aA (aHz hp.sm hR.sm hv hqv rfl (fun m hm=>aGL hv h1 h2 hn hd hm) (s:=(more.length:Int)) ⟨by omega,hml⟩) (hj _ rfl))
end Go.Lift
